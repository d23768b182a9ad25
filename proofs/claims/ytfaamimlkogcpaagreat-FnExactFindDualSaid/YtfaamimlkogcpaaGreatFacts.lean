/- The facts on the types of this seat that the abstract walk asks for, by program. No condition. -/
import Derived.Test.YtfaamimlkogcpaaGreatAbsRow
import Derived.Test.YtfaamimlkogcpaaGreatChecked
set_option linter.all false
namespace Abs.Y.Ty
open Go Go.Proofs Abs
open Nat renaming reduceEqDiff → zqa, reduceLT → zqb, reduceAdd → zqc, reduceMul → zqd, reduceSub → zqe, reduceLeDiff → zqf, reduceSubDiff → zqg, reduceBEq → zqh
open Bool renaming not_eq_true' → zba, not_eq_false' → zbb, and_eq_true → zbc, or_eq_true → zbd, or_eq_false_iff → zbe
open Int renaming ofNat_lt → zia, ofNat_le → zib, not_lt → zic, not_le → zid
open Decidable renaming not_not → zda
theorem c2 : Tryz.prog.cellsOf 2 = 1 := by kernel_rfl
theorem b2 : Tryz.prog.bytesOf 2 = 8 := by kernel_rfl
theorem a2 : aggT Tryz.prog 2 = false := by kernel_rfl
theorem s2 : elemSl Tryz.prog 2 = none := by kernel_rfl
theorem k2 : Tryz.prog.underlying 2 = some (.int .i64) := by kernel_rfl
theorem z2 : zeroD Tryz.prog 2 = some (.int .i64 0) := by kernel_rfl
theorem c3 : Tryz.prog.cellsOf 3 = 1 := by kernel_rfl
theorem b3 : Tryz.prog.bytesOf 3 = 8 := by kernel_rfl
theorem a3 : aggT Tryz.prog 3 = false := by kernel_rfl
theorem s3 : elemSl Tryz.prog 3 = none := by kernel_rfl
theorem k3 : Tryz.prog.underlying 3 = some (.int .i64) := by kernel_rfl
theorem z3 : zeroD Tryz.prog 3 = some (.int .i64 0) := by kernel_rfl
theorem c4 : Tryz.prog.cellsOf 4 = 1 := by kernel_rfl
theorem b4 : Tryz.prog.bytesOf 4 = 1 := by kernel_rfl
theorem a4 : aggT Tryz.prog 4 = false := by kernel_rfl
theorem bo4 : isBoolT Tryz.prog 4 = true := by kernel_rfl
theorem z4 : zeroD Tryz.prog 4 = some (.bool false) := by kernel_rfl
theorem c5 : Tryz.prog.cellsOf 5 = 1 := by kernel_rfl
theorem a5 : aggT Tryz.prog 5 = false := by kernel_rfl
theorem z5 : zeroD Tryz.prog 5 = some (.int .u8 0) := by kernel_rfl
theorem c6 : Tryz.prog.cellsOf 6 = 1 := by kernel_rfl
theorem c7 : Tryz.prog.cellsOf 7 = 4 := by kernel_rfl
theorem c8 : Tryz.prog.cellsOf 8 = 4 := by kernel_rfl
theorem c9 : Tryz.prog.cellsOf 9 = 1 := by kernel_rfl
theorem a9 : aggT Tryz.prog 9 = false := by kernel_rfl
theorem z9 : zeroD Tryz.prog 9 = some (.str ByteArray.empty) := by kernel_rfl
theorem c10 : Tryz.prog.cellsOf 10 = 1 := by kernel_rfl
theorem c22 : Tryz.prog.cellsOf 22 = 1 := by kernel_rfl
theorem a22 : aggT Tryz.prog 22 = false := by kernel_rfl
theorem us22 : (Tryz.prog.underlying 22).isSome = true := by kernel_rfl
theorem s22 : elemSl Tryz.prog 22 = some 26 := by kernel_rfl
theorem z22 : zeroD Tryz.prog 22 = some (.slice []) := by kernel_rfl
theorem c24 : Tryz.prog.cellsOf 24 = 2 := by kernel_rfl
theorem a24 : aggT Tryz.prog 24 = true := by kernel_rfl
theorem us24 : (Tryz.prog.underlying 24).isSome = true := by kernel_rfl
theorem ar24 : elemAr Tryz.prog 24 = none := by kernel_rfl
theorem z24 : zeroD Tryz.prog 24 = some (.agg [(.int .i64 0), (.slice [])]) := by kernel_rfl
theorem f24_0 : fieldOf Tryz.prog 24 0 = some (0, 3) := by kernel_rfl
theorem f24_1 : fieldOf Tryz.prog 24 1 = some (1, 22) := by kernel_rfl
theorem c26 : Tryz.prog.cellsOf 26 = 1 := by kernel_rfl
theorem b26 : Tryz.prog.bytesOf 26 = 24 := by kernel_rfl
theorem a26 : aggT Tryz.prog 26 = false := by kernel_rfl
theorem us26 : (Tryz.prog.underlying 26).isSome = true := by kernel_rfl
theorem s26 : elemSl Tryz.prog 26 = some 3 := by kernel_rfl
theorem z26 : zeroD Tryz.prog 26 = some (.slice []) := by kernel_rfl
theorem c29 : Tryz.prog.cellsOf 29 = 2 := by kernel_rfl
theorem a29 : aggT Tryz.prog 29 = true := by kernel_rfl
theorem us29 : (Tryz.prog.underlying 29).isSome = true := by kernel_rfl
theorem ar29 : elemAr Tryz.prog 29 = none := by kernel_rfl
theorem z29 : zeroD Tryz.prog 29 = some (.agg [(.int .i64 0), (.slice [])]) := by kernel_rfl
theorem f29_0 : fieldOf Tryz.prog 29 0 = some (0, 3) := by kernel_rfl
theorem f29_1 : fieldOf Tryz.prog 29 1 = some (1, 22) := by kernel_rfl
theorem c40 : Tryz.prog.cellsOf 40 = 1 := by kernel_rfl
theorem a40 : aggT Tryz.prog 40 = false := by kernel_rfl
theorem us40 : (Tryz.prog.underlying 40).isSome = true := by kernel_rfl
theorem s40 : elemSl Tryz.prog 40 = some 81 := by kernel_rfl
theorem c42 : Tryz.prog.cellsOf 42 = 4 := by kernel_rfl
theorem a42 : aggT Tryz.prog 42 = true := by kernel_rfl
theorem us42 : (Tryz.prog.underlying 42).isSome = true := by kernel_rfl
theorem ar42 : elemAr Tryz.prog 42 = none := by kernel_rfl
theorem z42 : zeroD Tryz.prog 42 = some (.agg [(.slice []), (.slice []), (.slice []), (.slice [])]) := by kernel_rfl
theorem f42_0 : fieldOf Tryz.prog 42 0 = some (0, 22) := by kernel_rfl
theorem f42_1 : fieldOf Tryz.prog 42 1 = some (1, 26) := by kernel_rfl
theorem f42_2 : fieldOf Tryz.prog 42 2 = some (2, 22) := by kernel_rfl
theorem f42_3 : fieldOf Tryz.prog 42 3 = some (3, 40) := by kernel_rfl
theorem pu42 : partsU Tryz.prog 42 = true := by kernel_rfl
theorem s52 : elemSl Tryz.prog 52 = some 89 := by kernel_rfl
theorem a53 : aggT Tryz.prog 53 = false := by kernel_rfl
theorem z53 : zeroD Tryz.prog 53 = some .nilptr := by kernel_rfl
theorem c56 : Tryz.prog.cellsOf 56 = 1 := by kernel_rfl
theorem b56 : Tryz.prog.bytesOf 56 = 24 := by kernel_rfl
theorem a56 : aggT Tryz.prog 56 = false := by kernel_rfl
theorem us56 : (Tryz.prog.underlying 56).isSome = true := by kernel_rfl
theorem s56 : elemSl Tryz.prog 56 = some 3 := by kernel_rfl
theorem z56 : zeroD Tryz.prog 56 = some (.slice []) := by kernel_rfl
theorem c61 : Tryz.prog.cellsOf 61 = 2 := by kernel_rfl
theorem a61 : aggT Tryz.prog 61 = true := by kernel_rfl
theorem us61 : (Tryz.prog.underlying 61).isSome = true := by kernel_rfl
theorem ar61 : elemAr Tryz.prog 61 = none := by kernel_rfl
theorem z61 : zeroD Tryz.prog 61 = some (.agg [(.int .i64 0), (.int .i64 0)]) := by kernel_rfl
theorem f61_0 : fieldOf Tryz.prog 61 0 = some (0, 3) := by kernel_rfl
theorem p61_0 : places Tryz.prog 61 0 = some (0, 1) := by kernel_rfl
theorem f61_1 : fieldOf Tryz.prog 61 1 = some (1, 3) := by kernel_rfl
theorem p61_1 : places Tryz.prog 61 1 = some (1, 1) := by kernel_rfl
theorem pu61 : partsU Tryz.prog 61 = true := by kernel_rfl
theorem c62 : Tryz.prog.cellsOf 62 = 1 := by kernel_rfl
theorem a62 : aggT Tryz.prog 62 = false := by kernel_rfl
theorem us62 : (Tryz.prog.underlying 62).isSome = true := by kernel_rfl
theorem s62 : elemSl Tryz.prog 62 = some 56 := by kernel_rfl
theorem ar64 : elemAr Tryz.prog 64 = none := by kernel_rfl
theorem z64 : zeroD Tryz.prog 64 = some (.agg [(.int .i64 0), (.int .i64 0), (.int .i64 0), (.slice []), (.slice [])]) := by kernel_rfl
theorem f64_0 : fieldOf Tryz.prog 64 0 = some (0, 61) := by kernel_rfl
theorem p64_0 : places Tryz.prog 64 0 = some (0, 2) := by kernel_rfl
theorem f64_1 : fieldOf Tryz.prog 64 1 = some (2, 29) := by kernel_rfl
theorem p64_1 : places Tryz.prog 64 1 = some (2, 2) := by kernel_rfl
theorem f64_2 : fieldOf Tryz.prog 64 2 = some (4, 62) := by kernel_rfl
theorem pu64 : partsU Tryz.prog 64 = true := by kernel_rfl
theorem ar68 : elemAr Tryz.prog 68 = none := by kernel_rfl
theorem z68 : zeroD Tryz.prog 68 = some (.agg [(.int .i64 0), (.int .i64 0), (.slice []), (.slice []), (.int .i64 0)]) := by kernel_rfl
theorem f68_0 : fieldOf Tryz.prog 68 0 = some (0, 61) := by kernel_rfl
theorem p68_0 : places Tryz.prog 68 0 = some (0, 2) := by kernel_rfl
theorem f68_1 : fieldOf Tryz.prog 68 1 = some (2, 62) := by kernel_rfl
theorem f68_2 : fieldOf Tryz.prog 68 2 = some (3, 62) := by kernel_rfl
theorem f68_3 : fieldOf Tryz.prog 68 3 = some (4, 3) := by kernel_rfl
theorem pu68 : partsU Tryz.prog 68 = true := by kernel_rfl
theorem c81 : Tryz.prog.cellsOf 81 = 3 := by kernel_rfl
theorem b81 : Tryz.prog.bytesOf 81 = 40 := by kernel_rfl
theorem a81 : aggT Tryz.prog 81 = true := by kernel_rfl
theorem us81 : (Tryz.prog.underlying 81).isSome = true := by kernel_rfl
theorem z81 : zeroD Tryz.prog 81 = some (.agg [(.int .i64 0), (.int .i64 0), (.slice [])]) := by kernel_rfl
theorem p81_0 : places Tryz.prog 81 0 = some (0, 1) := by kernel_rfl
theorem p81_1 : places Tryz.prog 81 1 = some (1, 1) := by kernel_rfl
theorem f81_2 : fieldOf Tryz.prog 81 2 = some (2, 26) := by kernel_rfl
theorem p81_2 : places Tryz.prog 81 2 = some (2, 1) := by kernel_rfl
theorem pu81 : partsU Tryz.prog 81 = true := by kernel_rfl
theorem c89 : Tryz.prog.cellsOf 89 = 3 := by kernel_rfl
theorem b89 : Tryz.prog.bytesOf 89 = 40 := by kernel_rfl
theorem a89 : aggT Tryz.prog 89 = true := by kernel_rfl
theorem us89 : (Tryz.prog.underlying 89).isSome = true := by kernel_rfl
theorem ar89 : elemAr Tryz.prog 89 = none := by kernel_rfl
theorem z89 : zeroD Tryz.prog 89 = some (.agg [(.int .i64 0), (.int .i64 0), (.slice [])]) := by kernel_rfl
theorem p89_0 : places Tryz.prog 89 0 = some (0, 1) := by kernel_rfl
theorem p89_1 : places Tryz.prog 89 1 = some (1, 1) := by kernel_rfl
theorem f89_2 : fieldOf Tryz.prog 89 2 = some (2, 56) := by kernel_rfl
theorem p89_2 : places Tryz.prog 89 2 = some (2, 1) := by kernel_rfl
theorem pu89 : partsU Tryz.prog 89 = true := by kernel_rfl
theorem k96 : Tryz.prog.underlying 96 = some (.int .u64) := by kernel_rfl
theorem s99 : elemSl Tryz.prog 99 = some 104 := by kernel_rfl
theorem c104 : Tryz.prog.cellsOf 104 = 2 := by kernel_rfl
theorem b104 : Tryz.prog.bytesOf 104 = 16 := by kernel_rfl
theorem a104 : aggT Tryz.prog 104 = true := by kernel_rfl
theorem us104 : (Tryz.prog.underlying 104).isSome = true := by kernel_rfl
theorem ar104 : elemAr Tryz.prog 104 = none := by kernel_rfl
theorem z104 : zeroD Tryz.prog 104 = some (.agg [(.int .i64 0), (.int .i64 0)]) := by kernel_rfl
theorem f104_0 : fieldOf Tryz.prog 104 0 = some (0, 3) := by kernel_rfl
theorem p104_0 : places Tryz.prog 104 0 = some (0, 1) := by kernel_rfl
theorem f104_1 : fieldOf Tryz.prog 104 1 = some (1, 3) := by kernel_rfl
theorem p104_1 : places Tryz.prog 104 1 = some (1, 1) := by kernel_rfl
theorem pu104 : partsU Tryz.prog 104 = true := by kernel_rfl
theorem k118 : Tryz.prog.underlying 118 = some (.int .u64) := by kernel_rfl
attribute [go_sem] c2 b2 a2 s2 k2 z2 c3 b3 a3 s3 k3 z3 c4 b4 a4 bo4 z4 c5 a5 z5 c6
attribute [go_sem] c7 c8 c9 a9 z9
attribute [go_sem] c10
attribute [go_sem] c22 a22 us22 s22 z22 c24 a24 us24
attribute [go_sem] ar24 z24 f24_0 f24_1 c26 b26 a26 us26 s26 z26 c29 a29 us29 ar29 z29 f29_0 f29_1 c40 a40 us40 s40
attribute [go_sem] c42 a42 us42 ar42 z42 f42_0 f42_1 f42_2 f42_3 pu42 s52
attribute [go_sem] a53 z53 c56 b56 a56 us56 s56 z56 c61 a61 us61 ar61 z61 f61_0 p61_0 f61_1 p61_1 pu61
attribute [go_sem] c62 a62 us62 s62 ar64 z64 f64_0 p64_0 f64_1 p64_1 f64_2 pu64
attribute [go_sem] ar68 z68 f68_0 p68_0 f68_1 f68_2 f68_3 pu68
attribute [go_sem] c81 b81 a81 us81 z81 p81_0 p81_1 f81_2 p81_2 pu81 c89 b89 a89 us89 ar89 z89 p89_0 p89_1
attribute [go_sem] f89_2 p89_2 pu89 k96 s99 c104 b104 a104 us104 ar104 z104 f104_0 p104_0
attribute [go_sem] f104_1 p104_1 pu104 k118
end Abs.Y.Ty
