/- The facts on the types of this seat that the abstract walk asks for, by program. No condition. -/
import Derived.Test.YtfaamimlkogcpaaAbsRow
import Derived.Test.YtfaamimlkogcpaaChecked
set_option linter.all false
namespace Abs.Y.Ty
open Go Go.Proofs Abs
open Nat renaming reduceEqDiff → zqa, reduceLT → zqb, reduceAdd → zqc, reduceMul → zqd, reduceSub → zqe, reduceLeDiff → zqf, reduceSubDiff → zqg, reduceBEq → zqh
open Bool renaming not_eq_true' → zba, not_eq_false' → zbb, and_eq_true → zbc, or_eq_true → zbd, or_eq_false_iff → zbe
open Int renaming ofNat_lt → zia, ofNat_le → zib, not_lt → zic, not_le → zid
open Decidable renaming not_not → zda
theorem c2 : Try.prog.cellsOf 2 = 1 := by kernel_rfl
theorem b2 : Try.prog.bytesOf 2 = 8 := by kernel_rfl
theorem a2 : aggT Try.prog 2 = false := by kernel_rfl
theorem s2 : elemSl Try.prog 2 = none := by kernel_rfl
theorem k2 : Try.prog.underlying 2 = some (.int .i64) := by kernel_rfl
theorem z2 : zeroD Try.prog 2 = some (.int .i64 0) := by kernel_rfl
theorem c3 : Try.prog.cellsOf 3 = 1 := by kernel_rfl
theorem b3 : Try.prog.bytesOf 3 = 8 := by kernel_rfl
theorem a3 : aggT Try.prog 3 = false := by kernel_rfl
theorem s3 : elemSl Try.prog 3 = none := by kernel_rfl
theorem k3 : Try.prog.underlying 3 = some (.int .i64) := by kernel_rfl
theorem z3 : zeroD Try.prog 3 = some (.int .i64 0) := by kernel_rfl
theorem c4 : Try.prog.cellsOf 4 = 1 := by kernel_rfl
theorem b4 : Try.prog.bytesOf 4 = 1 := by kernel_rfl
theorem a4 : aggT Try.prog 4 = false := by kernel_rfl
theorem us4 : (Try.prog.underlying 4).isSome = true := by kernel_rfl
theorem ar4 : elemAr Try.prog 4 = none := by kernel_rfl
theorem bo4 : isBoolT Try.prog 4 = true := by kernel_rfl
theorem z4 : zeroD Try.prog 4 = some (.bool false) := by kernel_rfl
theorem c5 : Try.prog.cellsOf 5 = 1 := by kernel_rfl
theorem a5 : aggT Try.prog 5 = false := by kernel_rfl
theorem z5 : zeroD Try.prog 5 = some (.int .u8 0) := by kernel_rfl
theorem c6 : Try.prog.cellsOf 6 = 1 := by kernel_rfl
theorem c7 : Try.prog.cellsOf 7 = 4 := by kernel_rfl
theorem c8 : Try.prog.cellsOf 8 = 4 := by kernel_rfl
theorem c9 : Try.prog.cellsOf 9 = 1 := by kernel_rfl
theorem a9 : aggT Try.prog 9 = false := by kernel_rfl
theorem z9 : zeroD Try.prog 9 = some (.str ByteArray.empty) := by kernel_rfl
theorem c22 : Try.prog.cellsOf 22 = 1 := by kernel_rfl
theorem a22 : aggT Try.prog 22 = false := by kernel_rfl
theorem us22 : (Try.prog.underlying 22).isSome = true := by kernel_rfl
theorem s22 : elemSl Try.prog 22 = some 34 := by kernel_rfl
theorem z22 : zeroD Try.prog 22 = some (.slice []) := by kernel_rfl
theorem c24 : Try.prog.cellsOf 24 = 2 := by kernel_rfl
theorem a24 : aggT Try.prog 24 = true := by kernel_rfl
theorem us24 : (Try.prog.underlying 24).isSome = true := by kernel_rfl
theorem ar24 : elemAr Try.prog 24 = none := by kernel_rfl
theorem z24 : zeroD Try.prog 24 = some (.agg [(.int .i64 0), (.slice [])]) := by kernel_rfl
theorem f24_0 : fieldOf Try.prog 24 0 = some (0, 3) := by kernel_rfl
theorem f24_1 : fieldOf Try.prog 24 1 = some (1, 22) := by kernel_rfl
theorem c28 : Try.prog.cellsOf 28 = 2 := by kernel_rfl
theorem a28 : aggT Try.prog 28 = true := by kernel_rfl
theorem us28 : (Try.prog.underlying 28).isSome = true := by kernel_rfl
theorem ar28 : elemAr Try.prog 28 = none := by kernel_rfl
theorem z28 : zeroD Try.prog 28 = some (.agg [(.int .i64 0), (.slice [])]) := by kernel_rfl
theorem f28_0 : fieldOf Try.prog 28 0 = some (0, 3) := by kernel_rfl
theorem f28_1 : fieldOf Try.prog 28 1 = some (1, 22) := by kernel_rfl
theorem c34 : Try.prog.cellsOf 34 = 1 := by kernel_rfl
theorem b34 : Try.prog.bytesOf 34 = 24 := by kernel_rfl
theorem a34 : aggT Try.prog 34 = false := by kernel_rfl
theorem us34 : (Try.prog.underlying 34).isSome = true := by kernel_rfl
theorem s34 : elemSl Try.prog 34 = some 3 := by kernel_rfl
theorem z34 : zeroD Try.prog 34 = some (.slice []) := by kernel_rfl
theorem c37 : Try.prog.cellsOf 37 = 1 := by kernel_rfl
theorem b37 : Try.prog.bytesOf 37 = 24 := by kernel_rfl
theorem a37 : aggT Try.prog 37 = false := by kernel_rfl
theorem us37 : (Try.prog.underlying 37).isSome = true := by kernel_rfl
theorem s37 : elemSl Try.prog 37 = some 84 := by kernel_rfl
theorem z37 : zeroD Try.prog 37 = some (.slice []) := by kernel_rfl
theorem c54 : Try.prog.cellsOf 54 = 1 := by kernel_rfl
theorem a54 : aggT Try.prog 54 = false := by kernel_rfl
theorem us54 : (Try.prog.underlying 54).isSome = true := by kernel_rfl
theorem s54 : elemSl Try.prog 54 = some 107 := by kernel_rfl
theorem a55 : aggT Try.prog 55 = true := by kernel_rfl
theorem z55 : zeroD Try.prog 55 = some (.agg [(.slice []), (.slice []), (.slice []), (.slice [])]) := by kernel_rfl
theorem c56 : Try.prog.cellsOf 56 = 4 := by kernel_rfl
theorem a56 : aggT Try.prog 56 = true := by kernel_rfl
theorem us56 : (Try.prog.underlying 56).isSome = true := by kernel_rfl
theorem ar56 : elemAr Try.prog 56 = none := by kernel_rfl
theorem z56 : zeroD Try.prog 56 = some (.agg [(.slice []), (.slice []), (.slice []), (.slice [])]) := by kernel_rfl
theorem f56_0 : fieldOf Try.prog 56 0 = some (0, 22) := by kernel_rfl
theorem f56_1 : fieldOf Try.prog 56 1 = some (1, 34) := by kernel_rfl
theorem f56_2 : fieldOf Try.prog 56 2 = some (2, 22) := by kernel_rfl
theorem f56_3 : fieldOf Try.prog 56 3 = some (3, 54) := by kernel_rfl
theorem pu56 : partsU Try.prog 56 = true := by kernel_rfl
theorem s61 : elemSl Try.prog 61 = some 37 := by kernel_rfl
theorem k68 : Try.prog.underlying 68 = some (.int .u64) := by kernel_rfl
theorem a70 : aggT Try.prog 70 = true := by kernel_rfl
theorem z70 : zeroD Try.prog 70 = some (.agg [(.slice []), (.int .i64 0), (.int .u64 0)]) := by kernel_rfl
theorem c74 : Try.prog.cellsOf 74 = 2 := by kernel_rfl
theorem a74 : aggT Try.prog 74 = true := by kernel_rfl
theorem us74 : (Try.prog.underlying 74).isSome = true := by kernel_rfl
theorem ar74 : elemAr Try.prog 74 = none := by kernel_rfl
theorem z74 : zeroD Try.prog 74 = some (.agg [(.int .i64 0), (.int .i64 0)]) := by kernel_rfl
theorem f74_0 : fieldOf Try.prog 74 0 = some (0, 3) := by kernel_rfl
theorem p74_0 : places Try.prog 74 0 = some (0, 1) := by kernel_rfl
theorem f74_1 : fieldOf Try.prog 74 1 = some (1, 3) := by kernel_rfl
theorem p74_1 : places Try.prog 74 1 = some (1, 1) := by kernel_rfl
theorem pu74 : partsU Try.prog 74 = true := by kernel_rfl
theorem c78 : Try.prog.cellsOf 78 = 1 := by kernel_rfl
theorem b78 : Try.prog.bytesOf 78 = 24 := by kernel_rfl
theorem a78 : aggT Try.prog 78 = false := by kernel_rfl
theorem us78 : (Try.prog.underlying 78).isSome = true := by kernel_rfl
theorem s78 : elemSl Try.prog 78 = some 3 := by kernel_rfl
theorem z78 : zeroD Try.prog 78 = some (.slice []) := by kernel_rfl
theorem c84 : Try.prog.cellsOf 84 = 2 := by kernel_rfl
theorem b84 : Try.prog.bytesOf 84 = 16 := by kernel_rfl
theorem a84 : aggT Try.prog 84 = true := by kernel_rfl
theorem us84 : (Try.prog.underlying 84).isSome = true := by kernel_rfl
theorem ar84 : elemAr Try.prog 84 = none := by kernel_rfl
theorem z84 : zeroD Try.prog 84 = some (.agg [(.int .i64 0), (.int .i64 0)]) := by kernel_rfl
theorem f84_0 : fieldOf Try.prog 84 0 = some (0, 3) := by kernel_rfl
theorem p84_0 : places Try.prog 84 0 = some (0, 1) := by kernel_rfl
theorem f84_1 : fieldOf Try.prog 84 1 = some (1, 3) := by kernel_rfl
theorem p84_1 : places Try.prog 84 1 = some (1, 1) := by kernel_rfl
theorem es84 : eqShape Try.prog 84 = some [(0, 3), (1, 3)] := by kernel_rfl
theorem pu84 : partsU Try.prog 84 = true := by kernel_rfl
theorem c85 : Try.prog.cellsOf 85 = 1 := by kernel_rfl
theorem a85 : aggT Try.prog 85 = false := by kernel_rfl
theorem us85 : (Try.prog.underlying 85).isSome = true := by kernel_rfl
theorem s85 : elemSl Try.prog 85 = some 78 := by kernel_rfl
theorem c107 : Try.prog.cellsOf 107 = 3 := by kernel_rfl
theorem b107 : Try.prog.bytesOf 107 = 40 := by kernel_rfl
theorem a107 : aggT Try.prog 107 = true := by kernel_rfl
theorem us107 : (Try.prog.underlying 107).isSome = true := by kernel_rfl
theorem z107 : zeroD Try.prog 107 = some (.agg [(.int .i64 0), (.int .i64 0), (.slice [])]) := by kernel_rfl
theorem p107_0 : places Try.prog 107 0 = some (0, 1) := by kernel_rfl
theorem p107_1 : places Try.prog 107 1 = some (1, 1) := by kernel_rfl
theorem f107_2 : fieldOf Try.prog 107 2 = some (2, 34) := by kernel_rfl
theorem p107_2 : places Try.prog 107 2 = some (2, 1) := by kernel_rfl
theorem pu107 : partsU Try.prog 107 = true := by kernel_rfl
theorem s113 : elemSl Try.prog 113 = some 125 := by kernel_rfl
theorem c114 : Try.prog.cellsOf 114 = 1 := by kernel_rfl
theorem a114 : aggT Try.prog 114 = false := by kernel_rfl
theorem us114 : (Try.prog.underlying 114).isSome = true := by kernel_rfl
theorem ar114 : elemAr Try.prog 114 = none := by kernel_rfl
theorem z114 : zeroD Try.prog 114 = some .nilptr := by kernel_rfl
theorem ar121 : elemAr Try.prog 121 = none := by kernel_rfl
theorem z121 : zeroD Try.prog 121 = some (.agg [(.int .i64 0), (.int .i64 0), (.int .i64 0), (.slice []), (.slice [])]) := by kernel_rfl
theorem f121_0 : fieldOf Try.prog 121 0 = some (0, 74) := by kernel_rfl
theorem p121_0 : places Try.prog 121 0 = some (0, 2) := by kernel_rfl
theorem f121_1 : fieldOf Try.prog 121 1 = some (2, 28) := by kernel_rfl
theorem p121_1 : places Try.prog 121 1 = some (2, 2) := by kernel_rfl
theorem f121_2 : fieldOf Try.prog 121 2 = some (4, 85) := by kernel_rfl
theorem pu121 : partsU Try.prog 121 = true := by kernel_rfl
theorem c125 : Try.prog.cellsOf 125 = 3 := by kernel_rfl
theorem b125 : Try.prog.bytesOf 125 = 40 := by kernel_rfl
theorem a125 : aggT Try.prog 125 = true := by kernel_rfl
theorem us125 : (Try.prog.underlying 125).isSome = true := by kernel_rfl
theorem ar125 : elemAr Try.prog 125 = none := by kernel_rfl
theorem z125 : zeroD Try.prog 125 = some (.agg [(.int .i64 0), (.int .i64 0), (.slice [])]) := by kernel_rfl
theorem f125_0 : fieldOf Try.prog 125 0 = some (0, 3) := by kernel_rfl
theorem p125_0 : places Try.prog 125 0 = some (0, 1) := by kernel_rfl
theorem f125_1 : fieldOf Try.prog 125 1 = some (1, 3) := by kernel_rfl
theorem p125_1 : places Try.prog 125 1 = some (1, 1) := by kernel_rfl
theorem f125_2 : fieldOf Try.prog 125 2 = some (2, 78) := by kernel_rfl
theorem p125_2 : places Try.prog 125 2 = some (2, 1) := by kernel_rfl
theorem pu125 : partsU Try.prog 125 = true := by kernel_rfl
theorem ar142 : elemAr Try.prog 142 = none := by kernel_rfl
theorem z142 : zeroD Try.prog 142 = some (.agg [(.int .i64 0), (.int .i64 0), (.slice []), (.slice []), (.int .i64 0)]) := by kernel_rfl
theorem f142_0 : fieldOf Try.prog 142 0 = some (0, 74) := by kernel_rfl
theorem p142_0 : places Try.prog 142 0 = some (0, 2) := by kernel_rfl
theorem f142_1 : fieldOf Try.prog 142 1 = some (2, 85) := by kernel_rfl
theorem f142_2 : fieldOf Try.prog 142 2 = some (3, 85) := by kernel_rfl
theorem f142_3 : fieldOf Try.prog 142 3 = some (4, 3) := by kernel_rfl
theorem pu142 : partsU Try.prog 142 = true := by kernel_rfl
theorem k153 : Try.prog.underlying 153 = some (.int .u64) := by kernel_rfl
attribute [go_sem] c2 b2 a2 s2 k2 z2 c3 b3 a3 s3 k3 z3 c4 b4 a4 us4 ar4 bo4 z4 c5 a5 z5 c6
attribute [go_sem] c7 c8 c9 a9 z9
attribute [go_sem] c22 a22 us22 s22 z22 c24 a24 us24
attribute [go_sem] ar24 z24 f24_0 f24_1 c28 a28 us28 ar28 z28 f28_0 f28_1 c34 b34 a34 us34 s34 z34 c37 b37 a37 us37 s37
attribute [go_sem] z37 c54 a54 us54 s54 a55 z55 c56 a56 us56 ar56 z56 f56_0 f56_1 f56_2 f56_3 pu56
attribute [go_sem] s61 k68 a70
attribute [go_sem] z70 c74 a74 us74 ar74 z74 f74_0 p74_0 f74_1 p74_1 pu74 c78 b78 a78 us78
attribute [go_sem] s78 z78 c84 b84 a84 us84 ar84 z84 f84_0 p84_0 f84_1 p84_1 es84 pu84 c85 a85 us85 s85
attribute [go_sem] c107 b107 a107 us107 z107 p107_0 p107_1 f107_2 p107_2 pu107 s113 c114
attribute [go_sem] a114 us114 ar114 z114 ar121 z121 f121_0 p121_0 f121_1 p121_1 f121_2 pu121
attribute [go_sem] c125 b125 a125 us125 ar125 z125 f125_0 p125_0 f125_1 p125_1 f125_2 p125_2 pu125
attribute [go_sem] ar142 z142 f142_0 p142_0 f142_1 f142_2 f142_3 pu142 k153
end Abs.Y.Ty
