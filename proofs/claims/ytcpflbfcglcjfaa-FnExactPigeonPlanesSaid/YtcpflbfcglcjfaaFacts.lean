/- The facts on the types of this seat that the abstract walk asks for, by program. No condition. -/
import Derived.Test.YtcpflbfcglcjfaaAbsRow
import Derived.Test.YtcpflbfcglcjfaaChecked
set_option linter.all false
namespace Abs.Y.Ty
open Go Go.Proofs Abs
open Nat renaming reduceEqDiff → zqa, reduceLT → zqb, reduceAdd → zqc, reduceMul → zqd, reduceSub → zqe, reduceLeDiff → zqf, reduceSubDiff → zqg, reduceBEq → zqh
open Bool renaming not_eq_true' → zba, not_eq_false' → zbb, and_eq_true → zbc, or_eq_true → zbd, or_eq_false_iff → zbe
open Int renaming ofNat_lt → zia, ofNat_le → zib, not_lt → zic, not_le → zid
open Decidable renaming not_not → zda
theorem c2 : Try.prog.cellsOf 2 = 1 := by kernel_rfl
theorem b2 : Try.prog.bytesOf 2 = 8 := by kernel_rfl
theorem a2 : aggT Try.prog 2 = false := by kernel_rfl
theorem s2 : elemSl Try.prog 2 = none := by kernel_rfl
theorem k2 : Try.prog.underlying 2 = some (.int .i64) := by kernel_rfl
theorem z2 : zeroD Try.prog 2 = some (.int .i64 0) := by kernel_rfl
theorem c3 : Try.prog.cellsOf 3 = 1 := by kernel_rfl
theorem b3 : Try.prog.bytesOf 3 = 8 := by kernel_rfl
theorem a3 : aggT Try.prog 3 = false := by kernel_rfl
theorem s3 : elemSl Try.prog 3 = none := by kernel_rfl
theorem ar3 : elemAr Try.prog 3 = none := by kernel_rfl
theorem k3 : Try.prog.underlying 3 = some (.int .i64) := by kernel_rfl
theorem z3 : zeroD Try.prog 3 = some (.int .i64 0) := by kernel_rfl
theorem c4 : Try.prog.cellsOf 4 = 1 := by kernel_rfl
theorem b4 : Try.prog.bytesOf 4 = 1 := by kernel_rfl
theorem a4 : aggT Try.prog 4 = false := by kernel_rfl
theorem s4 : elemSl Try.prog 4 = none := by kernel_rfl
theorem bo4 : isBoolT Try.prog 4 = true := by kernel_rfl
theorem z4 : zeroD Try.prog 4 = some (.bool false) := by kernel_rfl
theorem c5 : Try.prog.cellsOf 5 = 1 := by kernel_rfl
theorem a5 : aggT Try.prog 5 = false := by kernel_rfl
theorem s5 : elemSl Try.prog 5 = none := by kernel_rfl
theorem z5 : zeroD Try.prog 5 = some (.int .u8 0) := by kernel_rfl
theorem c6 : Try.prog.cellsOf 6 = 1 := by kernel_rfl
theorem s6 : elemSl Try.prog 6 = none := by kernel_rfl
theorem a9 : aggT Try.prog 9 = false := by kernel_rfl
theorem z9 : zeroD Try.prog 9 = some (.str ByteArray.empty) := by kernel_rfl
theorem c22 : Try.prog.cellsOf 22 = 1 := by kernel_rfl
theorem a22 : aggT Try.prog 22 = false := by kernel_rfl
theorem us22 : (Try.prog.underlying 22).isSome = true := by kernel_rfl
theorem s22 : elemSl Try.prog 22 = some 100 := by kernel_rfl
theorem z22 : zeroD Try.prog 22 = some (.slice []) := by kernel_rfl
theorem c30 : Try.prog.cellsOf 30 = 1 := by kernel_rfl
theorem a30 : aggT Try.prog 30 = false := by kernel_rfl
theorem us30 : (Try.prog.underlying 30).isSome = true := by kernel_rfl
theorem s30 : elemSl Try.prog 30 = some 52 := by kernel_rfl
theorem c34 : Try.prog.cellsOf 34 = 2 := by kernel_rfl
theorem a34 : aggT Try.prog 34 = true := by kernel_rfl
theorem us34 : (Try.prog.underlying 34).isSome = true := by kernel_rfl
theorem ar34 : elemAr Try.prog 34 = none := by kernel_rfl
theorem z34 : zeroD Try.prog 34 = some (.agg [(.int .i64 0), (.slice [])]) := by kernel_rfl
theorem f34_0 : fieldOf Try.prog 34 0 = some (0, 3) := by kernel_rfl
theorem p34_0 : places Try.prog 34 0 = some (0, 1) := by kernel_rfl
theorem f34_1 : fieldOf Try.prog 34 1 = some (1, 30) := by kernel_rfl
theorem p34_1 : places Try.prog 34 1 = some (1, 1) := by kernel_rfl
theorem pu34 : partsU Try.prog 34 = true := by kernel_rfl
theorem c52 : Try.prog.cellsOf 52 = 1 := by kernel_rfl
theorem b52 : Try.prog.bytesOf 52 = 24 := by kernel_rfl
theorem a52 : aggT Try.prog 52 = false := by kernel_rfl
theorem us52 : (Try.prog.underlying 52).isSome = true := by kernel_rfl
theorem s52 : elemSl Try.prog 52 = some 3 := by kernel_rfl
theorem z52 : zeroD Try.prog 52 = some (.slice []) := by kernel_rfl
theorem ar94 : elemAr Try.prog 94 = none := by kernel_rfl
theorem z94 : zeroD Try.prog 94 = some (.agg [(.int .i64 0), (.slice [])]) := by kernel_rfl
theorem f94_0 : fieldOf Try.prog 94 0 = some (0, 3) := by kernel_rfl
theorem p94_0 : places Try.prog 94 0 = some (0, 1) := by kernel_rfl
theorem f94_1 : fieldOf Try.prog 94 1 = some (1, 22) := by kernel_rfl
theorem pu94 : partsU Try.prog 94 = true := by kernel_rfl
theorem c98 : Try.prog.cellsOf 98 = 2 := by kernel_rfl
theorem a98 : aggT Try.prog 98 = true := by kernel_rfl
theorem us98 : (Try.prog.underlying 98).isSome = true := by kernel_rfl
theorem ar98 : elemAr Try.prog 98 = none := by kernel_rfl
theorem z98 : zeroD Try.prog 98 = some (.agg [(.slice []), (.int .i64 0)]) := by kernel_rfl
theorem f98_0 : fieldOf Try.prog 98 0 = some (0, 52) := by kernel_rfl
theorem p98_0 : places Try.prog 98 0 = some (0, 1) := by kernel_rfl
theorem f98_1 : fieldOf Try.prog 98 1 = some (1, 3) := by kernel_rfl
theorem p98_1 : places Try.prog 98 1 = some (1, 1) := by kernel_rfl
theorem pu98 : partsU Try.prog 98 = true := by kernel_rfl
theorem c100 : Try.prog.cellsOf 100 = 6 := by kernel_rfl
theorem b100 : Try.prog.bytesOf 100 = 64 := by kernel_rfl
theorem a100 : aggT Try.prog 100 = true := by kernel_rfl
theorem us100 : (Try.prog.underlying 100).isSome = true := by kernel_rfl
theorem ar100 : elemAr Try.prog 100 = none := by kernel_rfl
theorem z100 : zeroD Try.prog 100 = some (.agg [(.slice []), (.int .i64 0), (.int .i64 0), (.int .i64 0), (.int .i64 0), (.int .i64 0)]) := by kernel_rfl
theorem f100_0 : fieldOf Try.prog 100 0 = some (0, 98) := by kernel_rfl
theorem p100_0 : places Try.prog 100 0 = some (0, 2) := by kernel_rfl
theorem f100_1 : fieldOf Try.prog 100 1 = some (2, 3) := by kernel_rfl
theorem p100_1 : places Try.prog 100 1 = some (2, 1) := by kernel_rfl
theorem f100_2 : fieldOf Try.prog 100 2 = some (3, 3) := by kernel_rfl
theorem p100_2 : places Try.prog 100 2 = some (3, 1) := by kernel_rfl
theorem f100_3 : fieldOf Try.prog 100 3 = some (4, 3) := by kernel_rfl
theorem p100_3 : places Try.prog 100 3 = some (4, 1) := by kernel_rfl
theorem f100_4 : fieldOf Try.prog 100 4 = some (5, 3) := by kernel_rfl
theorem p100_4 : places Try.prog 100 4 = some (5, 1) := by kernel_rfl
theorem pu100 : partsU Try.prog 100 = true := by kernel_rfl
theorem ar209 : elemAr Try.prog 209 = none := by kernel_rfl
theorem z209 : zeroD Try.prog 209 = some (.agg [(.int .i64 0), (.slice [])]) := by kernel_rfl
theorem f209_0 : fieldOf Try.prog 209 0 = some (0, 3) := by kernel_rfl
theorem p209_0 : places Try.prog 209 0 = some (0, 1) := by kernel_rfl
theorem f209_1 : fieldOf Try.prog 209 1 = some (1, 30) := by kernel_rfl
theorem pu209 : partsU Try.prog 209 = true := by kernel_rfl
attribute [go_sem] c2 b2 a2 s2 k2 z2 c3 b3 a3 s3 ar3 k3 z3 c4 b4 a4 s4 bo4 z4 c5 a5 s5 z5 c6 s6
attribute [go_sem] a9 z9
attribute [go_sem] c22 a22 us22 s22 z22 c30 a30 us30 s30
attribute [go_sem] c34 a34 us34 ar34 z34 f34_0 p34_0 f34_1 p34_1 pu34 c52 b52 a52 us52 s52
attribute [go_sem] z52 ar94
attribute [go_sem] z94 f94_0 p94_0 f94_1 pu94 c98 a98 us98 ar98 z98 f98_0 p98_0 f98_1 p98_1 pu98
attribute [go_sem] c100 b100 a100 us100 ar100 z100 f100_0 p100_0 f100_1 p100_1 f100_2 p100_2 f100_3 p100_3 f100_4 p100_4 pu100
attribute [go_sem] ar209 z209 f209_0 p209_0 f209_1 pu209
end Abs.Y.Ty
