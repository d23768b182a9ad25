/- The facts on the types of this seat that the abstract walk asks for, by program. No condition. -/
import Derived.Test.YtoppjihdipidiaaAbsRow
import Derived.Test.YtoppjihdipidiaaChecked
set_option linter.all false
namespace Abs.Y.Ty
open Go Go.Proofs Abs
open Nat renaming reduceEqDiff → zqa, reduceLT → zqb, reduceAdd → zqc, reduceMul → zqd, reduceSub → zqe, reduceLeDiff → zqf, reduceSubDiff → zqg, reduceBEq → zqh
open Bool renaming not_eq_true' → zba, not_eq_false' → zbb, and_eq_true → zbc, or_eq_true → zbd, or_eq_false_iff → zbe
open Int renaming ofNat_lt → zia, ofNat_le → zib, not_lt → zic, not_le → zid
open Decidable renaming not_not → zda
theorem c2 : Try.prog.cellsOf 2 = 1 := by kernel_rfl
theorem b2 : Try.prog.bytesOf 2 = 8 := by kernel_rfl
theorem a2 : aggT Try.prog 2 = false := by kernel_rfl
theorem s2 : elemSl Try.prog 2 = none := by kernel_rfl
theorem k2 : Try.prog.underlying 2 = some (.int .i64) := by kernel_rfl
theorem z2 : zeroD Try.prog 2 = some (.int .i64 0) := by kernel_rfl
theorem c3 : Try.prog.cellsOf 3 = 1 := by kernel_rfl
theorem b3 : Try.prog.bytesOf 3 = 8 := by kernel_rfl
theorem a3 : aggT Try.prog 3 = false := by kernel_rfl
theorem s3 : elemSl Try.prog 3 = none := by kernel_rfl
theorem k3 : Try.prog.underlying 3 = some (.int .i64) := by kernel_rfl
theorem z3 : zeroD Try.prog 3 = some (.int .i64 0) := by kernel_rfl
theorem c4 : Try.prog.cellsOf 4 = 1 := by kernel_rfl
theorem a4 : aggT Try.prog 4 = false := by kernel_rfl
theorem bo4 : isBoolT Try.prog 4 = true := by kernel_rfl
theorem z4 : zeroD Try.prog 4 = some (.bool false) := by kernel_rfl
theorem c5 : Try.prog.cellsOf 5 = 1 := by kernel_rfl
theorem a5 : aggT Try.prog 5 = false := by kernel_rfl
theorem z5 : zeroD Try.prog 5 = some (.int .u8 0) := by kernel_rfl
theorem c6 : Try.prog.cellsOf 6 = 1 := by kernel_rfl
theorem c7 : Try.prog.cellsOf 7 = 4 := by kernel_rfl
theorem a9 : aggT Try.prog 9 = false := by kernel_rfl
theorem z9 : zeroD Try.prog 9 = some (.str ByteArray.empty) := by kernel_rfl
theorem c22 : Try.prog.cellsOf 22 = 1 := by kernel_rfl
theorem a22 : aggT Try.prog 22 = false := by kernel_rfl
theorem us22 : (Try.prog.underlying 22).isSome = true := by kernel_rfl
theorem s22 : elemSl Try.prog 22 = some 47 := by kernel_rfl
theorem z22 : zeroD Try.prog 22 = some (.slice []) := by kernel_rfl
theorem c24 : Try.prog.cellsOf 24 = 2 := by kernel_rfl
theorem a24 : aggT Try.prog 24 = true := by kernel_rfl
theorem us24 : (Try.prog.underlying 24).isSome = true := by kernel_rfl
theorem ar24 : elemAr Try.prog 24 = none := by kernel_rfl
theorem z24 : zeroD Try.prog 24 = some (.agg [(.int .i64 0), (.slice [])]) := by kernel_rfl
theorem f24_0 : fieldOf Try.prog 24 0 = some (0, 3) := by kernel_rfl
theorem f24_1 : fieldOf Try.prog 24 1 = some (1, 22) := by kernel_rfl
theorem a25 : aggT Try.prog 25 = false := by kernel_rfl
theorem z25 : zeroD Try.prog 25 = some (.slice []) := by kernel_rfl
theorem c30 : Try.prog.cellsOf 30 = 2 := by kernel_rfl
theorem a30 : aggT Try.prog 30 = true := by kernel_rfl
theorem us30 : (Try.prog.underlying 30).isSome = true := by kernel_rfl
theorem ar30 : elemAr Try.prog 30 = none := by kernel_rfl
theorem z30 : zeroD Try.prog 30 = some (.agg [(.int .i64 0), (.slice [])]) := by kernel_rfl
theorem f30_0 : fieldOf Try.prog 30 0 = some (0, 3) := by kernel_rfl
theorem f30_1 : fieldOf Try.prog 30 1 = some (1, 22) := by kernel_rfl
theorem a45 : aggT Try.prog 45 = false := by kernel_rfl
theorem z45 : zeroD Try.prog 45 = some (.slice []) := by kernel_rfl
theorem c47 : Try.prog.cellsOf 47 = 1 := by kernel_rfl
theorem b47 : Try.prog.bytesOf 47 = 24 := by kernel_rfl
theorem a47 : aggT Try.prog 47 = false := by kernel_rfl
theorem us47 : (Try.prog.underlying 47).isSome = true := by kernel_rfl
theorem s47 : elemSl Try.prog 47 = some 3 := by kernel_rfl
theorem z47 : zeroD Try.prog 47 = some (.slice []) := by kernel_rfl
theorem a50 : aggT Try.prog 50 = false := by kernel_rfl
theorem s50 : elemSl Try.prog 50 = some 124 := by kernel_rfl
theorem z50 : zeroD Try.prog 50 = some (.slice []) := by kernel_rfl
theorem c70 : Try.prog.cellsOf 70 = 1 := by kernel_rfl
theorem a70 : aggT Try.prog 70 = false := by kernel_rfl
theorem s70 : elemSl Try.prog 70 = some 159 := by kernel_rfl
theorem z70 : zeroD Try.prog 70 = some (.slice []) := by kernel_rfl
theorem c92 : Try.prog.cellsOf 92 = 1 := by kernel_rfl
theorem b92 : Try.prog.bytesOf 92 = 24 := by kernel_rfl
theorem a92 : aggT Try.prog 92 = false := by kernel_rfl
theorem us92 : (Try.prog.underlying 92).isSome = true := by kernel_rfl
theorem s92 : elemSl Try.prog 92 = some 3 := by kernel_rfl
theorem z92 : zeroD Try.prog 92 = some (.slice []) := by kernel_rfl
theorem c95 : Try.prog.cellsOf 95 = 2 := by kernel_rfl
theorem a95 : aggT Try.prog 95 = true := by kernel_rfl
theorem us95 : (Try.prog.underlying 95).isSome = true := by kernel_rfl
theorem ar95 : elemAr Try.prog 95 = none := by kernel_rfl
theorem z95 : zeroD Try.prog 95 = some (.agg [(.int .i64 0), (.int .i64 0)]) := by kernel_rfl
theorem f95_0 : fieldOf Try.prog 95 0 = some (0, 3) := by kernel_rfl
theorem p95_0 : places Try.prog 95 0 = some (0, 1) := by kernel_rfl
theorem f95_1 : fieldOf Try.prog 95 1 = some (1, 3) := by kernel_rfl
theorem p95_1 : places Try.prog 95 1 = some (1, 1) := by kernel_rfl
theorem pu95 : partsU Try.prog 95 = true := by kernel_rfl
theorem c96 : Try.prog.cellsOf 96 = 1 := by kernel_rfl
theorem a96 : aggT Try.prog 96 = false := by kernel_rfl
theorem us96 : (Try.prog.underlying 96).isSome = true := by kernel_rfl
theorem s96 : elemSl Try.prog 96 = some 92 := by kernel_rfl
theorem ar98 : elemAr Try.prog 98 = none := by kernel_rfl
theorem z98 : zeroD Try.prog 98 = some (.agg [(.int .i64 0), (.int .i64 0), (.int .i64 0), (.slice []), (.slice [])]) := by kernel_rfl
theorem f98_0 : fieldOf Try.prog 98 0 = some (0, 95) := by kernel_rfl
theorem p98_0 : places Try.prog 98 0 = some (0, 2) := by kernel_rfl
theorem f98_1 : fieldOf Try.prog 98 1 = some (2, 30) := by kernel_rfl
theorem p98_1 : places Try.prog 98 1 = some (2, 2) := by kernel_rfl
theorem f98_2 : fieldOf Try.prog 98 2 = some (4, 96) := by kernel_rfl
theorem pu98 : partsU Try.prog 98 = true := by kernel_rfl
theorem k110 : Try.prog.underlying 110 = some (.int .u64) := by kernel_rfl
theorem c124 : Try.prog.cellsOf 124 = 2 := by kernel_rfl
theorem b124 : Try.prog.bytesOf 124 = 16 := by kernel_rfl
theorem a124 : aggT Try.prog 124 = true := by kernel_rfl
theorem us124 : (Try.prog.underlying 124).isSome = true := by kernel_rfl
theorem ar124 : elemAr Try.prog 124 = none := by kernel_rfl
theorem z124 : zeroD Try.prog 124 = some (.agg [(.int .i64 0), (.int .i64 0)]) := by kernel_rfl
theorem f124_0 : fieldOf Try.prog 124 0 = some (0, 3) := by kernel_rfl
theorem p124_0 : places Try.prog 124 0 = some (0, 1) := by kernel_rfl
theorem f124_1 : fieldOf Try.prog 124 1 = some (1, 3) := by kernel_rfl
theorem p124_1 : places Try.prog 124 1 = some (1, 1) := by kernel_rfl
theorem pu124 : partsU Try.prog 124 = true := by kernel_rfl
theorem ar147 : elemAr Try.prog 147 = none := by kernel_rfl
theorem z147 : zeroD Try.prog 147 = some (.agg [(.int .i64 0), (.int .i64 0), (.slice []), (.slice []), (.int .i64 0)]) := by kernel_rfl
theorem f147_0 : fieldOf Try.prog 147 0 = some (0, 95) := by kernel_rfl
theorem p147_0 : places Try.prog 147 0 = some (0, 2) := by kernel_rfl
theorem f147_1 : fieldOf Try.prog 147 1 = some (2, 96) := by kernel_rfl
theorem f147_2 : fieldOf Try.prog 147 2 = some (3, 96) := by kernel_rfl
theorem f147_3 : fieldOf Try.prog 147 3 = some (4, 3) := by kernel_rfl
theorem pu147 : partsU Try.prog 147 = true := by kernel_rfl
theorem c150 : Try.prog.cellsOf 150 = 1 := by kernel_rfl
theorem a150 : aggT Try.prog 150 = false := by kernel_rfl
theorem us150 : (Try.prog.underlying 150).isSome = true := by kernel_rfl
theorem s150 : elemSl Try.prog 150 = some 190 := by kernel_rfl
theorem c152 : Try.prog.cellsOf 152 = 4 := by kernel_rfl
theorem a152 : aggT Try.prog 152 = true := by kernel_rfl
theorem us152 : (Try.prog.underlying 152).isSome = true := by kernel_rfl
theorem ar152 : elemAr Try.prog 152 = none := by kernel_rfl
theorem z152 : zeroD Try.prog 152 = some (.agg [(.slice []), (.slice []), (.slice []), (.slice [])]) := by kernel_rfl
theorem f152_0 : fieldOf Try.prog 152 0 = some (0, 22) := by kernel_rfl
theorem f152_1 : fieldOf Try.prog 152 1 = some (1, 47) := by kernel_rfl
theorem f152_2 : fieldOf Try.prog 152 2 = some (2, 22) := by kernel_rfl
theorem f152_3 : fieldOf Try.prog 152 3 = some (3, 150) := by kernel_rfl
theorem pu152 : partsU Try.prog 152 = true := by kernel_rfl
theorem c159 : Try.prog.cellsOf 159 = 2 := by kernel_rfl
theorem a159 : aggT Try.prog 159 = true := by kernel_rfl
theorem us159 : (Try.prog.underlying 159).isSome = true := by kernel_rfl
theorem ar159 : elemAr Try.prog 159 = none := by kernel_rfl
theorem f159_0 : fieldOf Try.prog 159 0 = some (0, 3) := by kernel_rfl
theorem f159_1 : fieldOf Try.prog 159 1 = some (1, 3) := by kernel_rfl
theorem s161 : elemSl Try.prog 161 = some 192 := by kernel_rfl
theorem c190 : Try.prog.cellsOf 190 = 3 := by kernel_rfl
theorem b190 : Try.prog.bytesOf 190 = 40 := by kernel_rfl
theorem a190 : aggT Try.prog 190 = true := by kernel_rfl
theorem us190 : (Try.prog.underlying 190).isSome = true := by kernel_rfl
theorem z190 : zeroD Try.prog 190 = some (.agg [(.int .i64 0), (.int .i64 0), (.slice [])]) := by kernel_rfl
theorem p190_0 : places Try.prog 190 0 = some (0, 1) := by kernel_rfl
theorem p190_1 : places Try.prog 190 1 = some (1, 1) := by kernel_rfl
theorem f190_2 : fieldOf Try.prog 190 2 = some (2, 47) := by kernel_rfl
theorem p190_2 : places Try.prog 190 2 = some (2, 1) := by kernel_rfl
theorem pu190 : partsU Try.prog 190 = true := by kernel_rfl
theorem c192 : Try.prog.cellsOf 192 = 3 := by kernel_rfl
theorem b192 : Try.prog.bytesOf 192 = 40 := by kernel_rfl
theorem a192 : aggT Try.prog 192 = true := by kernel_rfl
theorem us192 : (Try.prog.underlying 192).isSome = true := by kernel_rfl
theorem ar192 : elemAr Try.prog 192 = none := by kernel_rfl
theorem z192 : zeroD Try.prog 192 = some (.agg [(.int .i64 0), (.int .i64 0), (.slice [])]) := by kernel_rfl
theorem p192_0 : places Try.prog 192 0 = some (0, 1) := by kernel_rfl
theorem p192_1 : places Try.prog 192 1 = some (1, 1) := by kernel_rfl
theorem f192_2 : fieldOf Try.prog 192 2 = some (2, 92) := by kernel_rfl
theorem p192_2 : places Try.prog 192 2 = some (2, 1) := by kernel_rfl
theorem pu192 : partsU Try.prog 192 = true := by kernel_rfl
theorem k198 : Try.prog.underlying 198 = some (.int .u64) := by kernel_rfl
attribute [go_sem] c2 b2 a2 s2 k2 z2 c3 b3 a3 s3 k3 z3 c4 a4 bo4 z4 c5 a5 z5 c6
attribute [go_sem] c7 a9 z9
attribute [go_sem] c22 a22 us22 s22 z22 c24 a24 us24
attribute [go_sem] ar24 z24 f24_0 f24_1 a25 z25 c30 a30 us30 ar30 z30 f30_0 f30_1
attribute [go_sem] a45 z45 c47 b47 a47 us47 s47 z47 a50 s50 z50 c70 a70 s70 z70
attribute [go_sem] c92 b92 a92 us92 s92 z92 c95 a95 us95 ar95 z95 f95_0 p95_0 f95_1 p95_1 pu95 c96 a96 us96
attribute [go_sem] s96 ar98 z98 f98_0 p98_0 f98_1 p98_1 f98_2 pu98
attribute [go_sem] k110
attribute [go_sem] c124 b124 a124 us124 ar124 z124 f124_0 p124_0 f124_1 p124_1 pu124
attribute [go_sem] ar147 z147 f147_0 p147_0 f147_1 f147_2 f147_3 pu147 c150 a150 us150 s150
attribute [go_sem] c152 a152 us152 ar152 z152 f152_0 f152_1 f152_2 f152_3 pu152 c159 a159 us159 ar159 f159_0 f159_1 s161
attribute [go_sem] c190 b190 a190 us190 z190 p190_0 p190_1 f190_2 p190_2 pu190
attribute [go_sem] c192 b192 a192 us192 ar192 z192 p192_0 p192_1 f192_2 p192_2 pu192 k198
end Abs.Y.Ty
