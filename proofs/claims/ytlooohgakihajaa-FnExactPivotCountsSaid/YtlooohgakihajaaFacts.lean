/- The facts on the types of this seat that the abstract walk asks for, by program. No condition. -/
import Derived.Test.YtlooohgakihajaaAbsLib
import Derived.Test.YtlooohgakihajaaAbsRow
import Derived.Test.YtlooohgakihajaaChecked
set_option linter.all false
namespace Abs.Y.Ty
open Go Go.Proofs Abs
theorem c2 : Try.prog.cellsOf 2 = 1 := by kernel_rfl
theorem b2 : Try.prog.bytesOf 2 = 8 := by kernel_rfl
theorem a2 : aggT Try.prog 2 = false := by kernel_rfl
theorem us2 : (Try.prog.underlying 2).isSome = true := by kernel_rfl
theorem s2 : elemSl Try.prog 2 = none := by kernel_rfl
theorem ar2 : elemAr Try.prog 2 = none := by kernel_rfl
theorem k2 : Try.prog.underlying 2 = some (.int .i64) := by kernel_rfl
theorem z2 : zeroD Try.prog 2 = some (.int .i64 0) := by kernel_rfl
theorem c3 : Try.prog.cellsOf 3 = 1 := by kernel_rfl
theorem b3 : Try.prog.bytesOf 3 = 8 := by kernel_rfl
theorem a3 : aggT Try.prog 3 = false := by kernel_rfl
theorem us3 : (Try.prog.underlying 3).isSome = true := by kernel_rfl
theorem s3 : elemSl Try.prog 3 = none := by kernel_rfl
theorem ar3 : elemAr Try.prog 3 = none := by kernel_rfl
theorem k3 : Try.prog.underlying 3 = some (.int .i64) := by kernel_rfl
theorem z3 : zeroD Try.prog 3 = some (.int .i64 0) := by kernel_rfl
theorem c4 : Try.prog.cellsOf 4 = 1 := by kernel_rfl
theorem b4 : Try.prog.bytesOf 4 = 1 := by kernel_rfl
theorem a4 : aggT Try.prog 4 = false := by kernel_rfl
theorem us4 : (Try.prog.underlying 4).isSome = true := by kernel_rfl
theorem s4 : elemSl Try.prog 4 = none := by kernel_rfl
theorem ar4 : elemAr Try.prog 4 = none := by kernel_rfl
theorem bo4 : isBoolT Try.prog 4 = true := by kernel_rfl
theorem z4 : zeroD Try.prog 4 = some (.bool false) := by kernel_rfl
theorem c5 : Try.prog.cellsOf 5 = 1 := by kernel_rfl
theorem b5 : Try.prog.bytesOf 5 = 1 := by kernel_rfl
theorem a5 : aggT Try.prog 5 = false := by kernel_rfl
theorem us5 : (Try.prog.underlying 5).isSome = true := by kernel_rfl
theorem s5 : elemSl Try.prog 5 = none := by kernel_rfl
theorem ar5 : elemAr Try.prog 5 = none := by kernel_rfl
theorem k5 : Try.prog.underlying 5 = some (.int .u8) := by kernel_rfl
theorem z5 : zeroD Try.prog 5 = some (.int .u8 0) := by kernel_rfl
theorem c6 : Try.prog.cellsOf 6 = 1 := by kernel_rfl
theorem b6 : Try.prog.bytesOf 6 = 1 := by kernel_rfl
theorem a6 : aggT Try.prog 6 = false := by kernel_rfl
theorem us6 : (Try.prog.underlying 6).isSome = true := by kernel_rfl
theorem s6 : elemSl Try.prog 6 = none := by kernel_rfl
theorem ar6 : elemAr Try.prog 6 = none := by kernel_rfl
theorem k6 : Try.prog.underlying 6 = some (.int .u8) := by kernel_rfl
theorem z6 : zeroD Try.prog 6 = some (.int .u8 0) := by kernel_rfl
theorem c7 : Try.prog.cellsOf 7 = 4 := by kernel_rfl
theorem b7 : Try.prog.bytesOf 7 = 24 := by kernel_rfl
theorem a7 : aggT Try.prog 7 = true := by kernel_rfl
theorem us7 : (Try.prog.underlying 7).isSome = true := by kernel_rfl
theorem s7 : elemSl Try.prog 7 = none := by kernel_rfl
theorem ar7 : elemAr Try.prog 7 = none := by kernel_rfl
theorem z7 : zeroD Try.prog 7 = some (.agg [(.int .i64 0), (.int .i64 0), (.bool false), (.int .u8 0)]) := by kernel_rfl
theorem f7_0 : fieldOf Try.prog 7 0 = some (0, 2) := by kernel_rfl
theorem p7_0 : places Try.prog 7 0 = some (0, 1) := by kernel_rfl
theorem f7_1 : fieldOf Try.prog 7 1 = some (1, 3) := by kernel_rfl
theorem p7_1 : places Try.prog 7 1 = some (1, 1) := by kernel_rfl
theorem f7_2 : fieldOf Try.prog 7 2 = some (2, 4) := by kernel_rfl
theorem p7_2 : places Try.prog 7 2 = some (2, 1) := by kernel_rfl
theorem f7_3 : fieldOf Try.prog 7 3 = some (3, 6) := by kernel_rfl
theorem p7_3 : places Try.prog 7 3 = some (3, 1) := by kernel_rfl
theorem pu7 : partsU Try.prog 7 = true := by kernel_rfl
theorem c8 : Try.prog.cellsOf 8 = 4 := by kernel_rfl
theorem b8 : Try.prog.bytesOf 8 = 24 := by kernel_rfl
theorem a8 : aggT Try.prog 8 = true := by kernel_rfl
theorem us8 : (Try.prog.underlying 8).isSome = true := by kernel_rfl
theorem s8 : elemSl Try.prog 8 = none := by kernel_rfl
theorem ar8 : elemAr Try.prog 8 = none := by kernel_rfl
theorem z8 : zeroD Try.prog 8 = some (.agg [(.int .i64 0), (.int .i64 0), (.bool false), (.int .u8 0)]) := by kernel_rfl
theorem f8_0 : fieldOf Try.prog 8 0 = some (0, 2) := by kernel_rfl
theorem p8_0 : places Try.prog 8 0 = some (0, 1) := by kernel_rfl
theorem f8_1 : fieldOf Try.prog 8 1 = some (1, 3) := by kernel_rfl
theorem p8_1 : places Try.prog 8 1 = some (1, 1) := by kernel_rfl
theorem f8_2 : fieldOf Try.prog 8 2 = some (2, 4) := by kernel_rfl
theorem p8_2 : places Try.prog 8 2 = some (2, 1) := by kernel_rfl
theorem f8_3 : fieldOf Try.prog 8 3 = some (3, 6) := by kernel_rfl
theorem p8_3 : places Try.prog 8 3 = some (3, 1) := by kernel_rfl
theorem pu8 : partsU Try.prog 8 = true := by kernel_rfl
theorem c9 : Try.prog.cellsOf 9 = 1 := by kernel_rfl
theorem b9 : Try.prog.bytesOf 9 = 16 := by kernel_rfl
theorem a9 : aggT Try.prog 9 = false := by kernel_rfl
theorem us9 : (Try.prog.underlying 9).isSome = true := by kernel_rfl
theorem s9 : elemSl Try.prog 9 = none := by kernel_rfl
theorem ar9 : elemAr Try.prog 9 = none := by kernel_rfl
theorem st9 : isStrT Try.prog 9 = true := by kernel_rfl
theorem z9 : zeroD Try.prog 9 = some (.str ByteArray.empty) := by kernel_rfl
theorem c10 : Try.prog.cellsOf 10 = 1 := by kernel_rfl
theorem b10 : Try.prog.bytesOf 10 = 16 := by kernel_rfl
theorem a10 : aggT Try.prog 10 = false := by kernel_rfl
theorem us10 : (Try.prog.underlying 10).isSome = true := by kernel_rfl
theorem s10 : elemSl Try.prog 10 = none := by kernel_rfl
theorem ar10 : elemAr Try.prog 10 = none := by kernel_rfl
theorem st10 : isStrT Try.prog 10 = true := by kernel_rfl
theorem z10 : zeroD Try.prog 10 = some (.str ByteArray.empty) := by kernel_rfl
theorem c11 : Try.prog.cellsOf 11 = 1 := by kernel_rfl
theorem b11 : Try.prog.bytesOf 11 = 16 := by kernel_rfl
theorem a11 : aggT Try.prog 11 = false := by kernel_rfl
theorem us11 : (Try.prog.underlying 11).isSome = true := by kernel_rfl
theorem s11 : elemSl Try.prog 11 = none := by kernel_rfl
theorem ar11 : elemAr Try.prog 11 = none := by kernel_rfl
theorem st11 : isStrT Try.prog 11 = true := by kernel_rfl
theorem z11 : zeroD Try.prog 11 = some (.str ByteArray.empty) := by kernel_rfl
theorem c12 : Try.prog.cellsOf 12 = 1 := by kernel_rfl
theorem b12 : Try.prog.bytesOf 12 = 8 := by kernel_rfl
theorem a12 : aggT Try.prog 12 = false := by kernel_rfl
theorem us12 : (Try.prog.underlying 12).isSome = true := by kernel_rfl
theorem s12 : elemSl Try.prog 12 = none := by kernel_rfl
theorem ar12 : elemAr Try.prog 12 = none := by kernel_rfl
theorem k12 : Try.prog.underlying 12 = some (.int .u64) := by kernel_rfl
theorem z12 : zeroD Try.prog 12 = some (.int .u64 0) := by kernel_rfl
theorem c13 : Try.prog.cellsOf 13 = 2 := by kernel_rfl
theorem b13 : Try.prog.bytesOf 13 = 24 := by kernel_rfl
theorem a13 : aggT Try.prog 13 = true := by kernel_rfl
theorem us13 : (Try.prog.underlying 13).isSome = true := by kernel_rfl
theorem s13 : elemSl Try.prog 13 = none := by kernel_rfl
theorem ar13 : elemAr Try.prog 13 = none := by kernel_rfl
theorem z13 : zeroD Try.prog 13 = some (.agg [(.str ByteArray.empty), (.int .u64 0)]) := by kernel_rfl
theorem f13_0 : fieldOf Try.prog 13 0 = some (0, 9) := by kernel_rfl
theorem p13_0 : places Try.prog 13 0 = some (0, 1) := by kernel_rfl
theorem f13_1 : fieldOf Try.prog 13 1 = some (1, 12) := by kernel_rfl
theorem p13_1 : places Try.prog 13 1 = some (1, 1) := by kernel_rfl
theorem pu13 : partsU Try.prog 13 = true := by kernel_rfl
theorem c14 : Try.prog.cellsOf 14 = 2 := by kernel_rfl
theorem b14 : Try.prog.bytesOf 14 = 24 := by kernel_rfl
theorem a14 : aggT Try.prog 14 = true := by kernel_rfl
theorem us14 : (Try.prog.underlying 14).isSome = true := by kernel_rfl
theorem s14 : elemSl Try.prog 14 = none := by kernel_rfl
theorem ar14 : elemAr Try.prog 14 = none := by kernel_rfl
theorem z14 : zeroD Try.prog 14 = some (.agg [(.str ByteArray.empty), (.int .u64 0)]) := by kernel_rfl
theorem f14_0 : fieldOf Try.prog 14 0 = some (0, 9) := by kernel_rfl
theorem p14_0 : places Try.prog 14 0 = some (0, 1) := by kernel_rfl
theorem f14_1 : fieldOf Try.prog 14 1 = some (1, 12) := by kernel_rfl
theorem p14_1 : places Try.prog 14 1 = some (1, 1) := by kernel_rfl
theorem pu14 : partsU Try.prog 14 = true := by kernel_rfl
theorem c15 : Try.prog.cellsOf 15 = 1 := by kernel_rfl
theorem b15 : Try.prog.bytesOf 15 = 8 := by kernel_rfl
theorem a15 : aggT Try.prog 15 = false := by kernel_rfl
theorem us15 : (Try.prog.underlying 15).isSome = true := by kernel_rfl
theorem s15 : elemSl Try.prog 15 = none := by kernel_rfl
theorem ar15 : elemAr Try.prog 15 = none := by kernel_rfl
theorem z15 : zeroD Try.prog 15 = some .nilptr := by kernel_rfl
theorem c16 : Try.prog.cellsOf 16 = 1 := by kernel_rfl
theorem b16 : Try.prog.bytesOf 16 = 8 := by kernel_rfl
theorem a16 : aggT Try.prog 16 = false := by kernel_rfl
theorem us16 : (Try.prog.underlying 16).isSome = true := by kernel_rfl
theorem s16 : elemSl Try.prog 16 = none := by kernel_rfl
theorem ar16 : elemAr Try.prog 16 = none := by kernel_rfl
theorem z16 : zeroD Try.prog 16 = some .nilptr := by kernel_rfl
theorem c17 : Try.prog.cellsOf 17 = 1 := by kernel_rfl
theorem b17 : Try.prog.bytesOf 17 = 8 := by kernel_rfl
theorem a17 : aggT Try.prog 17 = false := by kernel_rfl
theorem us17 : (Try.prog.underlying 17).isSome = true := by kernel_rfl
theorem s17 : elemSl Try.prog 17 = none := by kernel_rfl
theorem ar17 : elemAr Try.prog 17 = none := by kernel_rfl
theorem z17 : zeroD Try.prog 17 = some .nilptr := by kernel_rfl
theorem c18 : Try.prog.cellsOf 18 = 1 := by kernel_rfl
theorem b18 : Try.prog.bytesOf 18 = 8 := by kernel_rfl
theorem a18 : aggT Try.prog 18 = true := by kernel_rfl
theorem us18 : (Try.prog.underlying 18).isSome = true := by kernel_rfl
theorem s18 : elemSl Try.prog 18 = none := by kernel_rfl
theorem ar18 : elemAr Try.prog 18 = none := by kernel_rfl
theorem z18 : zeroD Try.prog 18 = some (.agg [.nilptr]) := by kernel_rfl
theorem f18_0 : fieldOf Try.prog 18 0 = some (0, 17) := by kernel_rfl
theorem p18_0 : places Try.prog 18 0 = some (0, 1) := by kernel_rfl
theorem pu18 : partsU Try.prog 18 = true := by kernel_rfl
theorem c19 : Try.prog.cellsOf 19 = 1 := by kernel_rfl
theorem b19 : Try.prog.bytesOf 19 = 8 := by kernel_rfl
theorem a19 : aggT Try.prog 19 = true := by kernel_rfl
theorem us19 : (Try.prog.underlying 19).isSome = true := by kernel_rfl
theorem s19 : elemSl Try.prog 19 = none := by kernel_rfl
theorem ar19 : elemAr Try.prog 19 = none := by kernel_rfl
theorem z19 : zeroD Try.prog 19 = some (.agg [.nilptr]) := by kernel_rfl
theorem f19_0 : fieldOf Try.prog 19 0 = some (0, 17) := by kernel_rfl
theorem p19_0 : places Try.prog 19 0 = some (0, 1) := by kernel_rfl
theorem pu19 : partsU Try.prog 19 = true := by kernel_rfl
theorem c21 : Try.prog.cellsOf 21 = 1 := by kernel_rfl
theorem b21 : Try.prog.bytesOf 21 = 4 := by kernel_rfl
theorem a21 : aggT Try.prog 21 = false := by kernel_rfl
theorem us21 : (Try.prog.underlying 21).isSome = true := by kernel_rfl
theorem s21 : elemSl Try.prog 21 = none := by kernel_rfl
theorem ar21 : elemAr Try.prog 21 = none := by kernel_rfl
theorem k21 : Try.prog.underlying 21 = some (.int .i32) := by kernel_rfl
theorem z21 : zeroD Try.prog 21 = some (.int .i32 0) := by kernel_rfl
theorem c22 : Try.prog.cellsOf 22 = 1 := by kernel_rfl
theorem b22 : Try.prog.bytesOf 22 = 24 := by kernel_rfl
theorem a22 : aggT Try.prog 22 = false := by kernel_rfl
theorem us22 : (Try.prog.underlying 22).isSome = true := by kernel_rfl
theorem s22 : elemSl Try.prog 22 = some 3 := by kernel_rfl
theorem ar22 : elemAr Try.prog 22 = none := by kernel_rfl
theorem z22 : zeroD Try.prog 22 = some (.slice []) := by kernel_rfl
theorem c29 : Try.prog.cellsOf 29 = 1 := by kernel_rfl
theorem b29 : Try.prog.bytesOf 29 = 24 := by kernel_rfl
theorem a29 : aggT Try.prog 29 = false := by kernel_rfl
theorem us29 : (Try.prog.underlying 29).isSome = true := by kernel_rfl
theorem s29 : elemSl Try.prog 29 = some 22 := by kernel_rfl
theorem ar29 : elemAr Try.prog 29 = none := by kernel_rfl
theorem z29 : zeroD Try.prog 29 = some (.slice []) := by kernel_rfl
theorem c30 : Try.prog.cellsOf 30 = 2 := by kernel_rfl
theorem b30 : Try.prog.bytesOf 30 = 32 := by kernel_rfl
theorem a30 : aggT Try.prog 30 = true := by kernel_rfl
theorem us30 : (Try.prog.underlying 30).isSome = true := by kernel_rfl
theorem s30 : elemSl Try.prog 30 = none := by kernel_rfl
theorem ar30 : elemAr Try.prog 30 = none := by kernel_rfl
theorem z30 : zeroD Try.prog 30 = some (.agg [(.int .i64 0), (.slice [])]) := by kernel_rfl
theorem f30_0 : fieldOf Try.prog 30 0 = some (0, 3) := by kernel_rfl
theorem p30_0 : places Try.prog 30 0 = some (0, 1) := by kernel_rfl
theorem f30_1 : fieldOf Try.prog 30 1 = some (1, 29) := by kernel_rfl
theorem p30_1 : places Try.prog 30 1 = some (1, 1) := by kernel_rfl
theorem pu30 : partsU Try.prog 30 = true := by kernel_rfl
theorem c31 : Try.prog.cellsOf 31 = 2 := by kernel_rfl
theorem b31 : Try.prog.bytesOf 31 = 32 := by kernel_rfl
theorem a31 : aggT Try.prog 31 = true := by kernel_rfl
theorem us31 : (Try.prog.underlying 31).isSome = true := by kernel_rfl
theorem s31 : elemSl Try.prog 31 = none := by kernel_rfl
theorem ar31 : elemAr Try.prog 31 = none := by kernel_rfl
theorem z31 : zeroD Try.prog 31 = some (.agg [(.int .i64 0), (.slice [])]) := by kernel_rfl
theorem f31_0 : fieldOf Try.prog 31 0 = some (0, 3) := by kernel_rfl
theorem p31_0 : places Try.prog 31 0 = some (0, 1) := by kernel_rfl
theorem f31_1 : fieldOf Try.prog 31 1 = some (1, 29) := by kernel_rfl
theorem p31_1 : places Try.prog 31 1 = some (1, 1) := by kernel_rfl
theorem pu31 : partsU Try.prog 31 = true := by kernel_rfl
theorem c32 : Try.prog.cellsOf 32 = 1 := by kernel_rfl
theorem b32 : Try.prog.bytesOf 32 = 24 := by kernel_rfl
theorem a32 : aggT Try.prog 32 = false := by kernel_rfl
theorem us32 : (Try.prog.underlying 32).isSome = true := by kernel_rfl
theorem s32 : elemSl Try.prog 32 = some 55 := by kernel_rfl
theorem ar32 : elemAr Try.prog 32 = none := by kernel_rfl
theorem z32 : zeroD Try.prog 32 = some (.slice []) := by kernel_rfl
theorem c36 : Try.prog.cellsOf 36 = 2 := by kernel_rfl
theorem b36 : Try.prog.bytesOf 36 = 32 := by kernel_rfl
theorem a36 : aggT Try.prog 36 = true := by kernel_rfl
theorem us36 : (Try.prog.underlying 36).isSome = true := by kernel_rfl
theorem s36 : elemSl Try.prog 36 = none := by kernel_rfl
theorem ar36 : elemAr Try.prog 36 = none := by kernel_rfl
theorem z36 : zeroD Try.prog 36 = some (.agg [(.int .i64 0), (.slice [])]) := by kernel_rfl
theorem f36_0 : fieldOf Try.prog 36 0 = some (0, 3) := by kernel_rfl
theorem p36_0 : places Try.prog 36 0 = some (0, 1) := by kernel_rfl
theorem f36_1 : fieldOf Try.prog 36 1 = some (1, 29) := by kernel_rfl
theorem p36_1 : places Try.prog 36 1 = some (1, 1) := by kernel_rfl
theorem pu36 : partsU Try.prog 36 = true := by kernel_rfl
theorem c38 : Try.prog.cellsOf 38 = 1 := by kernel_rfl
theorem b38 : Try.prog.bytesOf 38 = 24 := by kernel_rfl
theorem a38 : aggT Try.prog 38 = false := by kernel_rfl
theorem us38 : (Try.prog.underlying 38).isSome = true := by kernel_rfl
theorem s38 : elemSl Try.prog 38 = some 59 := by kernel_rfl
theorem ar38 : elemAr Try.prog 38 = none := by kernel_rfl
theorem z38 : zeroD Try.prog 38 = some (.slice []) := by kernel_rfl
theorem c54 : Try.prog.cellsOf 54 = 4 := by kernel_rfl
theorem b54 : Try.prog.bytesOf 54 = 48 := by kernel_rfl
theorem a54 : aggT Try.prog 54 = true := by kernel_rfl
theorem us54 : (Try.prog.underlying 54).isSome = true := by kernel_rfl
theorem s54 : elemSl Try.prog 54 = none := by kernel_rfl
theorem ar54 : elemAr Try.prog 54 = none := by kernel_rfl
theorem z54 : zeroD Try.prog 54 = some (.agg [(.slice []), (.int .i64 0), (.int .i64 0), (.int .i64 0)]) := by kernel_rfl
theorem f54_0 : fieldOf Try.prog 54 0 = some (0, 22) := by kernel_rfl
theorem p54_0 : places Try.prog 54 0 = some (0, 1) := by kernel_rfl
theorem f54_1 : fieldOf Try.prog 54 1 = some (1, 3) := by kernel_rfl
theorem p54_1 : places Try.prog 54 1 = some (1, 1) := by kernel_rfl
theorem f54_2 : fieldOf Try.prog 54 2 = some (2, 3) := by kernel_rfl
theorem p54_2 : places Try.prog 54 2 = some (2, 1) := by kernel_rfl
theorem f54_3 : fieldOf Try.prog 54 3 = some (3, 3) := by kernel_rfl
theorem p54_3 : places Try.prog 54 3 = some (3, 1) := by kernel_rfl
theorem pu54 : partsU Try.prog 54 = true := by kernel_rfl
theorem c55 : Try.prog.cellsOf 55 = 4 := by kernel_rfl
theorem b55 : Try.prog.bytesOf 55 = 48 := by kernel_rfl
theorem a55 : aggT Try.prog 55 = true := by kernel_rfl
theorem us55 : (Try.prog.underlying 55).isSome = true := by kernel_rfl
theorem s55 : elemSl Try.prog 55 = none := by kernel_rfl
theorem ar55 : elemAr Try.prog 55 = none := by kernel_rfl
theorem z55 : zeroD Try.prog 55 = some (.agg [(.slice []), (.int .i64 0), (.int .i64 0), (.int .i64 0)]) := by kernel_rfl
theorem f55_0 : fieldOf Try.prog 55 0 = some (0, 22) := by kernel_rfl
theorem p55_0 : places Try.prog 55 0 = some (0, 1) := by kernel_rfl
theorem f55_1 : fieldOf Try.prog 55 1 = some (1, 3) := by kernel_rfl
theorem p55_1 : places Try.prog 55 1 = some (1, 1) := by kernel_rfl
theorem f55_2 : fieldOf Try.prog 55 2 = some (2, 3) := by kernel_rfl
theorem p55_2 : places Try.prog 55 2 = some (2, 1) := by kernel_rfl
theorem f55_3 : fieldOf Try.prog 55 3 = some (3, 3) := by kernel_rfl
theorem p55_3 : places Try.prog 55 3 = some (3, 1) := by kernel_rfl
theorem pu55 : partsU Try.prog 55 = true := by kernel_rfl
theorem c59 : Try.prog.cellsOf 59 = 4 := by kernel_rfl
theorem b59 : Try.prog.bytesOf 59 = 48 := by kernel_rfl
theorem a59 : aggT Try.prog 59 = true := by kernel_rfl
theorem us59 : (Try.prog.underlying 59).isSome = true := by kernel_rfl
theorem s59 : elemSl Try.prog 59 = none := by kernel_rfl
theorem ar59 : elemAr Try.prog 59 = none := by kernel_rfl
theorem z59 : zeroD Try.prog 59 = some (.agg [(.slice []), (.int .i64 0), (.int .i64 0), (.int .i64 0)]) := by kernel_rfl
theorem f59_0 : fieldOf Try.prog 59 0 = some (0, 22) := by kernel_rfl
theorem p59_0 : places Try.prog 59 0 = some (0, 1) := by kernel_rfl
theorem f59_1 : fieldOf Try.prog 59 1 = some (1, 3) := by kernel_rfl
theorem p59_1 : places Try.prog 59 1 = some (1, 1) := by kernel_rfl
theorem f59_2 : fieldOf Try.prog 59 2 = some (2, 3) := by kernel_rfl
theorem p59_2 : places Try.prog 59 2 = some (2, 1) := by kernel_rfl
theorem f59_3 : fieldOf Try.prog 59 3 = some (3, 3) := by kernel_rfl
theorem p59_3 : places Try.prog 59 3 = some (3, 1) := by kernel_rfl
theorem pu59 : partsU Try.prog 59 = true := by kernel_rfl
theorem c82 : Try.prog.cellsOf 82 = 1 := by kernel_rfl
theorem b82 : Try.prog.bytesOf 82 = 8 := by kernel_rfl
theorem a82 : aggT Try.prog 82 = false := by kernel_rfl
theorem us82 : (Try.prog.underlying 82).isSome = true := by kernel_rfl
theorem s82 : elemSl Try.prog 82 = none := by kernel_rfl
theorem ar82 : elemAr Try.prog 82 = none := by kernel_rfl
theorem k82 : Try.prog.underlying 82 = some (.int .u64) := by kernel_rfl
theorem z82 : zeroD Try.prog 82 = some (.int .u64 0) := by kernel_rfl
theorem c90 : Try.prog.cellsOf 90 = 1 := by kernel_rfl
theorem b90 : Try.prog.bytesOf 90 = 8 := by kernel_rfl
theorem a90 : aggT Try.prog 90 = false := by kernel_rfl
theorem us90 : (Try.prog.underlying 90).isSome = true := by kernel_rfl
theorem s90 : elemSl Try.prog 90 = none := by kernel_rfl
theorem ar90 : elemAr Try.prog 90 = none := by kernel_rfl
theorem k90 : Try.prog.underlying 90 = some (.int .i64) := by kernel_rfl
theorem z90 : zeroD Try.prog 90 = some (.int .i64 0) := by kernel_rfl
theorem c98 : Try.prog.cellsOf 98 = 1 := by kernel_rfl
theorem b98 : Try.prog.bytesOf 98 = 4 := by kernel_rfl
theorem a98 : aggT Try.prog 98 = false := by kernel_rfl
theorem us98 : (Try.prog.underlying 98).isSome = true := by kernel_rfl
theorem s98 : elemSl Try.prog 98 = none := by kernel_rfl
theorem ar98 : elemAr Try.prog 98 = none := by kernel_rfl
theorem k98 : Try.prog.underlying 98 = some (.int .u32) := by kernel_rfl
theorem z98 : zeroD Try.prog 98 = some (.int .u32 0) := by kernel_rfl
theorem c100 : Try.prog.cellsOf 100 = 1 := by kernel_rfl
theorem b100 : Try.prog.bytesOf 100 = 8 := by kernel_rfl
theorem a100 : aggT Try.prog 100 = false := by kernel_rfl
theorem us100 : (Try.prog.underlying 100).isSome = true := by kernel_rfl
theorem s100 : elemSl Try.prog 100 = none := by kernel_rfl
theorem ar100 : elemAr Try.prog 100 = none := by kernel_rfl
theorem k100 : Try.prog.underlying 100 = some (.int .u64) := by kernel_rfl
theorem z100 : zeroD Try.prog 100 = some (.int .u64 0) := by kernel_rfl
theorem c105 : Try.prog.cellsOf 105 = 1 := by kernel_rfl
theorem b105 : Try.prog.bytesOf 105 = 8 := by kernel_rfl
theorem a105 : aggT Try.prog 105 = false := by kernel_rfl
theorem us105 : (Try.prog.underlying 105).isSome = true := by kernel_rfl
theorem s105 : elemSl Try.prog 105 = none := by kernel_rfl
theorem ar105 : elemAr Try.prog 105 = none := by kernel_rfl
theorem k105 : Try.prog.underlying 105 = some (.int .u64) := by kernel_rfl
theorem z105 : zeroD Try.prog 105 = some (.int .u64 0) := by kernel_rfl
theorem c109 : Try.prog.cellsOf 109 = 1 := by kernel_rfl
theorem b109 : Try.prog.bytesOf 109 = 8 := by kernel_rfl
theorem a109 : aggT Try.prog 109 = false := by kernel_rfl
theorem us109 : (Try.prog.underlying 109).isSome = true := by kernel_rfl
theorem s109 : elemSl Try.prog 109 = none := by kernel_rfl
theorem ar109 : elemAr Try.prog 109 = none := by kernel_rfl
theorem z109 : zeroD Try.prog 109 = some .nilptr := by kernel_rfl
theorem c117 : Try.prog.cellsOf 117 = 1 := by kernel_rfl
theorem b117 : Try.prog.bytesOf 117 = 8 := by kernel_rfl
theorem a117 : aggT Try.prog 117 = false := by kernel_rfl
theorem us117 : (Try.prog.underlying 117).isSome = true := by kernel_rfl
theorem s117 : elemSl Try.prog 117 = none := by kernel_rfl
theorem ar117 : elemAr Try.prog 117 = none := by kernel_rfl
theorem z117 : zeroD Try.prog 117 = some .nilptr := by kernel_rfl
theorem c124 : Try.prog.cellsOf 124 = 4 := by kernel_rfl
theorem b124 : Try.prog.bytesOf 124 = 40 := by kernel_rfl
theorem a124 : aggT Try.prog 124 = true := by kernel_rfl
theorem us124 : (Try.prog.underlying 124).isSome = true := by kernel_rfl
theorem s124 : elemSl Try.prog 124 = none := by kernel_rfl
theorem ar124 : elemAr Try.prog 124 = none := by kernel_rfl
theorem z124 : zeroD Try.prog 124 = some (.agg [.nilptr, .nilptr, .nilptr, (.str ByteArray.empty)]) := by kernel_rfl
theorem f124_0 : fieldOf Try.prog 124 0 = some (0, 17) := by kernel_rfl
theorem p124_0 : places Try.prog 124 0 = some (0, 1) := by kernel_rfl
theorem f124_1 : fieldOf Try.prog 124 1 = some (1, 17) := by kernel_rfl
theorem p124_1 : places Try.prog 124 1 = some (1, 1) := by kernel_rfl
theorem f124_2 : fieldOf Try.prog 124 2 = some (2, 17) := by kernel_rfl
theorem p124_2 : places Try.prog 124 2 = some (2, 1) := by kernel_rfl
theorem f124_3 : fieldOf Try.prog 124 3 = some (3, 9) := by kernel_rfl
theorem p124_3 : places Try.prog 124 3 = some (3, 1) := by kernel_rfl
theorem pu124 : partsU Try.prog 124 = true := by kernel_rfl
theorem c125 : Try.prog.cellsOf 125 = 4 := by kernel_rfl
theorem b125 : Try.prog.bytesOf 125 = 40 := by kernel_rfl
theorem a125 : aggT Try.prog 125 = true := by kernel_rfl
theorem us125 : (Try.prog.underlying 125).isSome = true := by kernel_rfl
theorem s125 : elemSl Try.prog 125 = none := by kernel_rfl
theorem ar125 : elemAr Try.prog 125 = none := by kernel_rfl
theorem z125 : zeroD Try.prog 125 = some (.agg [.nilptr, .nilptr, .nilptr, (.str ByteArray.empty)]) := by kernel_rfl
theorem f125_0 : fieldOf Try.prog 125 0 = some (0, 17) := by kernel_rfl
theorem p125_0 : places Try.prog 125 0 = some (0, 1) := by kernel_rfl
theorem f125_1 : fieldOf Try.prog 125 1 = some (1, 17) := by kernel_rfl
theorem p125_1 : places Try.prog 125 1 = some (1, 1) := by kernel_rfl
theorem f125_2 : fieldOf Try.prog 125 2 = some (2, 17) := by kernel_rfl
theorem p125_2 : places Try.prog 125 2 = some (2, 1) := by kernel_rfl
theorem f125_3 : fieldOf Try.prog 125 3 = some (3, 9) := by kernel_rfl
theorem p125_3 : places Try.prog 125 3 = some (3, 1) := by kernel_rfl
theorem pu125 : partsU Try.prog 125 = true := by kernel_rfl
theorem c126 : Try.prog.cellsOf 126 = 0 := by kernel_rfl
theorem b126 : Try.prog.bytesOf 126 = 0 := by kernel_rfl
theorem a126 : aggT Try.prog 126 = true := by kernel_rfl
theorem us126 : (Try.prog.underlying 126).isSome = true := by kernel_rfl
theorem s126 : elemSl Try.prog 126 = none := by kernel_rfl
theorem ar126 : elemAr Try.prog 126 = some (0, 16) := by kernel_rfl
theorem z126 : zeroD Try.prog 126 = some (.agg []) := by kernel_rfl
theorem pu126 : partsU Try.prog 126 = true := by kernel_rfl
theorem c127 : Try.prog.cellsOf 127 = 0 := by kernel_rfl
theorem b127 : Try.prog.bytesOf 127 = 0 := by kernel_rfl
theorem a127 : aggT Try.prog 127 = true := by kernel_rfl
theorem us127 : (Try.prog.underlying 127).isSome = true := by kernel_rfl
theorem s127 : elemSl Try.prog 127 = none := by kernel_rfl
theorem ar127 : elemAr Try.prog 127 = none := by kernel_rfl
theorem z127 : zeroD Try.prog 127 = some (.agg []) := by kernel_rfl
theorem f127_0 : fieldOf Try.prog 127 0 = some (0, 126) := by kernel_rfl
theorem p127_0 : places Try.prog 127 0 = some (0, 0) := by kernel_rfl
theorem pu127 : partsU Try.prog 127 = true := by kernel_rfl
theorem c128 : Try.prog.cellsOf 128 = 0 := by kernel_rfl
theorem b128 : Try.prog.bytesOf 128 = 0 := by kernel_rfl
theorem a128 : aggT Try.prog 128 = true := by kernel_rfl
theorem us128 : (Try.prog.underlying 128).isSome = true := by kernel_rfl
theorem s128 : elemSl Try.prog 128 = none := by kernel_rfl
theorem ar128 : elemAr Try.prog 128 = none := by kernel_rfl
theorem z128 : zeroD Try.prog 128 = some (.agg []) := by kernel_rfl
theorem f128_0 : fieldOf Try.prog 128 0 = some (0, 126) := by kernel_rfl
theorem p128_0 : places Try.prog 128 0 = some (0, 0) := by kernel_rfl
theorem pu128 : partsU Try.prog 128 = true := by kernel_rfl
theorem c130 : Try.prog.cellsOf 130 = 1 := by kernel_rfl
theorem b130 : Try.prog.bytesOf 130 = 1 := by kernel_rfl
theorem a130 : aggT Try.prog 130 = false := by kernel_rfl
theorem us130 : (Try.prog.underlying 130).isSome = true := by kernel_rfl
theorem s130 : elemSl Try.prog 130 = none := by kernel_rfl
theorem ar130 : elemAr Try.prog 130 = none := by kernel_rfl
theorem k130 : Try.prog.underlying 130 = some (.int .u8) := by kernel_rfl
theorem z130 : zeroD Try.prog 130 = some (.int .u8 0) := by kernel_rfl
theorem c131 : Try.prog.cellsOf 131 = 1 := by kernel_rfl
theorem b131 : Try.prog.bytesOf 131 = 1 := by kernel_rfl
theorem a131 : aggT Try.prog 131 = false := by kernel_rfl
theorem us131 : (Try.prog.underlying 131).isSome = true := by kernel_rfl
theorem s131 : elemSl Try.prog 131 = none := by kernel_rfl
theorem ar131 : elemAr Try.prog 131 = none := by kernel_rfl
theorem k131 : Try.prog.underlying 131 = some (.int .u8) := by kernel_rfl
theorem z131 : zeroD Try.prog 131 = some (.int .u8 0) := by kernel_rfl
theorem c133 : Try.prog.cellsOf 133 = 1 := by kernel_rfl
theorem b133 : Try.prog.bytesOf 133 = 8 := by kernel_rfl
theorem a133 : aggT Try.prog 133 = false := by kernel_rfl
theorem us133 : (Try.prog.underlying 133).isSome = true := by kernel_rfl
theorem s133 : elemSl Try.prog 133 = none := by kernel_rfl
theorem ar133 : elemAr Try.prog 133 = none := by kernel_rfl
theorem z133 : zeroD Try.prog 133 = some .nilptr := by kernel_rfl
theorem c134 : Try.prog.cellsOf 134 = 1 := by kernel_rfl
theorem b134 : Try.prog.bytesOf 134 = 4 := by kernel_rfl
theorem a134 : aggT Try.prog 134 = false := by kernel_rfl
theorem us134 : (Try.prog.underlying 134).isSome = true := by kernel_rfl
theorem s134 : elemSl Try.prog 134 = none := by kernel_rfl
theorem ar134 : elemAr Try.prog 134 = none := by kernel_rfl
theorem k134 : Try.prog.underlying 134 = some (.int .i32) := by kernel_rfl
theorem z134 : zeroD Try.prog 134 = some (.int .i32 0) := by kernel_rfl
theorem c135 : Try.prog.cellsOf 135 = 1 := by kernel_rfl
theorem b135 : Try.prog.bytesOf 135 = 4 := by kernel_rfl
theorem a135 : aggT Try.prog 135 = false := by kernel_rfl
theorem us135 : (Try.prog.underlying 135).isSome = true := by kernel_rfl
theorem s135 : elemSl Try.prog 135 = none := by kernel_rfl
theorem ar135 : elemAr Try.prog 135 = none := by kernel_rfl
theorem k135 : Try.prog.underlying 135 = some (.int .i32) := by kernel_rfl
theorem z135 : zeroD Try.prog 135 = some (.int .i32 0) := by kernel_rfl
theorem c136 : Try.prog.cellsOf 136 = 11 := by kernel_rfl
theorem b136 : Try.prog.bytesOf 136 = 48 := by kernel_rfl
theorem a136 : aggT Try.prog 136 = true := by kernel_rfl
theorem us136 : (Try.prog.underlying 136).isSome = true := by kernel_rfl
theorem s136 : elemSl Try.prog 136 = none := by kernel_rfl
theorem ar136 : elemAr Try.prog 136 = none := by kernel_rfl
theorem z136 : zeroD Try.prog 136 = some (.agg [(.int .u64 0), (.int .u64 0), (.int .u32 0), (.int .u8 0), (.int .u8 0), (.int .u8 0), (.int .u8 0), .nilfn, .nilptr, (.int .i32 0), (.int .i32 0)]) := by kernel_rfl
theorem f136_0 : fieldOf Try.prog 136 0 = some (0, 12) := by kernel_rfl
theorem p136_0 : places Try.prog 136 0 = some (0, 1) := by kernel_rfl
theorem f136_1 : fieldOf Try.prog 136 1 = some (1, 12) := by kernel_rfl
theorem p136_1 : places Try.prog 136 1 = some (1, 1) := by kernel_rfl
theorem f136_2 : fieldOf Try.prog 136 2 = some (2, 98) := by kernel_rfl
theorem p136_2 : places Try.prog 136 2 = some (2, 1) := by kernel_rfl
theorem f136_3 : fieldOf Try.prog 136 3 = some (3, 130) := by kernel_rfl
theorem p136_3 : places Try.prog 136 3 = some (3, 1) := by kernel_rfl
theorem f136_4 : fieldOf Try.prog 136 4 = some (4, 5) := by kernel_rfl
theorem p136_4 : places Try.prog 136 4 = some (4, 1) := by kernel_rfl
theorem f136_5 : fieldOf Try.prog 136 5 = some (5, 5) := by kernel_rfl
theorem p136_5 : places Try.prog 136 5 = some (5, 1) := by kernel_rfl
theorem f136_6 : fieldOf Try.prog 136 6 = some (6, 131) := by kernel_rfl
theorem p136_6 : places Try.prog 136 6 = some (6, 1) := by kernel_rfl
theorem f136_7 : fieldOf Try.prog 136 7 = some (7, 132) := by kernel_rfl
theorem f136_8 : fieldOf Try.prog 136 8 = some (8, 133) := by kernel_rfl
theorem p136_8 : places Try.prog 136 8 = some (8, 1) := by kernel_rfl
theorem f136_9 : fieldOf Try.prog 136 9 = some (9, 134) := by kernel_rfl
theorem p136_9 : places Try.prog 136 9 = some (9, 1) := by kernel_rfl
theorem f136_10 : fieldOf Try.prog 136 10 = some (10, 135) := by kernel_rfl
theorem p136_10 : places Try.prog 136 10 = some (10, 1) := by kernel_rfl
theorem pu136 : partsU Try.prog 136 = true := by kernel_rfl
theorem c137 : Try.prog.cellsOf 137 = 11 := by kernel_rfl
theorem b137 : Try.prog.bytesOf 137 = 48 := by kernel_rfl
theorem a137 : aggT Try.prog 137 = true := by kernel_rfl
theorem us137 : (Try.prog.underlying 137).isSome = true := by kernel_rfl
theorem s137 : elemSl Try.prog 137 = none := by kernel_rfl
theorem ar137 : elemAr Try.prog 137 = none := by kernel_rfl
theorem z137 : zeroD Try.prog 137 = some (.agg [(.int .u64 0), (.int .u64 0), (.int .u32 0), (.int .u8 0), (.int .u8 0), (.int .u8 0), (.int .u8 0), .nilfn, .nilptr, (.int .i32 0), (.int .i32 0)]) := by kernel_rfl
theorem f137_0 : fieldOf Try.prog 137 0 = some (0, 12) := by kernel_rfl
theorem p137_0 : places Try.prog 137 0 = some (0, 1) := by kernel_rfl
theorem f137_1 : fieldOf Try.prog 137 1 = some (1, 12) := by kernel_rfl
theorem p137_1 : places Try.prog 137 1 = some (1, 1) := by kernel_rfl
theorem f137_2 : fieldOf Try.prog 137 2 = some (2, 98) := by kernel_rfl
theorem p137_2 : places Try.prog 137 2 = some (2, 1) := by kernel_rfl
theorem f137_3 : fieldOf Try.prog 137 3 = some (3, 130) := by kernel_rfl
theorem p137_3 : places Try.prog 137 3 = some (3, 1) := by kernel_rfl
theorem f137_4 : fieldOf Try.prog 137 4 = some (4, 5) := by kernel_rfl
theorem p137_4 : places Try.prog 137 4 = some (4, 1) := by kernel_rfl
theorem f137_5 : fieldOf Try.prog 137 5 = some (5, 5) := by kernel_rfl
theorem p137_5 : places Try.prog 137 5 = some (5, 1) := by kernel_rfl
theorem f137_6 : fieldOf Try.prog 137 6 = some (6, 131) := by kernel_rfl
theorem p137_6 : places Try.prog 137 6 = some (6, 1) := by kernel_rfl
theorem f137_7 : fieldOf Try.prog 137 7 = some (7, 132) := by kernel_rfl
theorem f137_8 : fieldOf Try.prog 137 8 = some (8, 133) := by kernel_rfl
theorem p137_8 : places Try.prog 137 8 = some (8, 1) := by kernel_rfl
theorem f137_9 : fieldOf Try.prog 137 9 = some (9, 134) := by kernel_rfl
theorem p137_9 : places Try.prog 137 9 = some (9, 1) := by kernel_rfl
theorem f137_10 : fieldOf Try.prog 137 10 = some (10, 135) := by kernel_rfl
theorem p137_10 : places Try.prog 137 10 = some (10, 1) := by kernel_rfl
theorem pu137 : partsU Try.prog 137 = true := by kernel_rfl
attribute [go_sem] c2 b2 a2 us2 s2 ar2 k2 z2 c3 b3 a3 us3 s3 ar3 k3 z3 c4 b4 a4 us4 s4 ar4 bo4 z4 c5 b5 a5 us5 s5 ar5 k5 z5 c6 b6 a6 us6 s6 ar6 k6 z6
attribute [go_sem] c7 b7 a7 us7 s7 ar7 z7 f7_0 p7_0 f7_1 p7_1 f7_2 p7_2 f7_3 p7_3 pu7 c8 b8 a8 us8 s8 ar8 z8 f8_0 p8_0 f8_1 p8_1 f8_2 p8_2 f8_3 p8_3 pu8 c9 b9 a9 us9 s9 ar9 st9 z9
attribute [go_sem] c10 b10 a10 us10 s10 ar10 st10 z10 c11 b11 a11 us11 s11 ar11 st11 z11 c12 b12 a12 us12 s12 ar12 k12 z12 c13 b13 a13 us13 s13 ar13 z13 f13_0 p13_0 f13_1 p13_1 pu13 c14 b14 a14 us14
attribute [go_sem] s14 ar14 z14 f14_0 p14_0 f14_1 p14_1 pu14 c15 b15 a15 us15 s15 ar15 z15 c16 b16 a16 us16 s16 ar16 z16 c17 b17 a17 us17 s17 ar17 z17 c18 b18 a18 us18 s18 ar18 z18 f18_0 p18_0 pu18 c19
attribute [go_sem] b19 a19 us19 s19 ar19 z19 f19_0 p19_0 pu19 c21 b21 a21 us21 s21 ar21 k21 z21 c22 b22 a22 us22 s22 ar22 z22 c29 b29 a29 us29 s29 ar29 z29 c30 b30 a30 us30 s30 ar30 z30 f30_0 p30_0
attribute [go_sem] f30_1 p30_1 pu30 c31 b31 a31 us31 s31 ar31 z31 f31_0 p31_0 f31_1 p31_1 pu31 c32 b32 a32 us32 s32 ar32 z32 c36 b36 a36 us36 s36 ar36 z36 f36_0 p36_0 f36_1 p36_1 pu36 c38 b38 a38 us38 s38 ar38
attribute [go_sem] z38 c54 b54 a54 us54 s54 ar54 z54 f54_0 p54_0 f54_1 p54_1 f54_2 p54_2 f54_3 p54_3 pu54 c55 b55 a55 us55 s55 ar55 z55 f55_0 p55_0 f55_1 p55_1 f55_2 p55_2 f55_3 p55_3 pu55 c59 b59 a59 us59 s59 ar59 z59
attribute [go_sem] f59_0 p59_0 f59_1 p59_1 f59_2 p59_2 f59_3 p59_3 pu59 c82 b82 a82 us82 s82 ar82 k82 z82 c90 b90 a90 us90 s90 ar90 k90 z90 c98 b98 a98 us98 s98 ar98 k98 z98 c100 b100 a100 us100 s100 ar100 k100
attribute [go_sem] z100 c105 b105 a105 us105 s105 ar105 k105 z105 c109 b109 a109 us109 s109 ar109 z109 c117 b117 a117 us117 s117 ar117 z117 c124 b124 a124 us124 s124 ar124 z124 f124_0 p124_0 f124_1 p124_1 f124_2 p124_2 f124_3 p124_3 pu124 c125
attribute [go_sem] b125 a125 us125 s125 ar125 z125 f125_0 p125_0 f125_1 p125_1 f125_2 p125_2 f125_3 p125_3 pu125 c126 b126 a126 us126 s126 ar126 z126 pu126 c127 b127 a127 us127 s127 ar127 z127 f127_0 p127_0 pu127 c128 b128 a128 us128 s128 ar128 z128
attribute [go_sem] f128_0 p128_0 pu128 c130 b130 a130 us130 s130 ar130 k130 z130 c131 b131 a131 us131 s131 ar131 k131 z131 c133 b133 a133 us133 s133 ar133 z133 c134 b134 a134 us134 s134 ar134 k134 z134 c135 b135 a135 us135 s135 ar135
attribute [go_sem] k135 z135 c136 b136 a136 us136 s136 ar136 z136 f136_0 p136_0 f136_1 p136_1 f136_2 p136_2 f136_3 p136_3 f136_4 p136_4 f136_5 p136_5 f136_6 p136_6 f136_7 f136_8 p136_8 f136_9 p136_9 f136_10 p136_10 pu136 c137 b137 a137 us137 s137 ar137 z137 f137_0 p137_0
attribute [go_sem] f137_1 p137_1 f137_2 p137_2 f137_3 p137_3 f137_4 p137_4 f137_5 p137_5 f137_6 p137_6 f137_7 f137_8 p137_8 f137_9 p137_9 f137_10 p137_10 pu137
end Abs.Y.Ty
