/- The facts on the types of this seat that the abstract walk asks for, by program. No condition. -/
import Derived.Test.YtbcohiabmdeanaaGreatAbsLib
import Derived.Test.YtbcohiabmdeanaaGreatAbsRow
import Derived.Test.YtbcohiabmdeanaaGreatChecked
set_option linter.all false
namespace Abs.Y.Ty
open Go Go.Proofs Abs
theorem c2 : Tryz.prog.cellsOf 2 = 1 := by kernel_rfl
theorem b2 : Tryz.prog.bytesOf 2 = 8 := by kernel_rfl
theorem a2 : aggT Tryz.prog 2 = false := by kernel_rfl
theorem us2 : (Tryz.prog.underlying 2).isSome = true := by kernel_rfl
theorem s2 : elemSl Tryz.prog 2 = none := by kernel_rfl
theorem ar2 : elemAr Tryz.prog 2 = none := by kernel_rfl
theorem k2 : Tryz.prog.underlying 2 = some (.int .i64) := by kernel_rfl
theorem z2 : zeroD Tryz.prog 2 = some (.int .i64 0) := by kernel_rfl
theorem c3 : Tryz.prog.cellsOf 3 = 1 := by kernel_rfl
theorem b3 : Tryz.prog.bytesOf 3 = 8 := by kernel_rfl
theorem a3 : aggT Tryz.prog 3 = false := by kernel_rfl
theorem us3 : (Tryz.prog.underlying 3).isSome = true := by kernel_rfl
theorem s3 : elemSl Tryz.prog 3 = none := by kernel_rfl
theorem ar3 : elemAr Tryz.prog 3 = none := by kernel_rfl
theorem k3 : Tryz.prog.underlying 3 = some (.int .i64) := by kernel_rfl
theorem z3 : zeroD Tryz.prog 3 = some (.int .i64 0) := by kernel_rfl
theorem c4 : Tryz.prog.cellsOf 4 = 1 := by kernel_rfl
theorem b4 : Tryz.prog.bytesOf 4 = 1 := by kernel_rfl
theorem a4 : aggT Tryz.prog 4 = false := by kernel_rfl
theorem us4 : (Tryz.prog.underlying 4).isSome = true := by kernel_rfl
theorem s4 : elemSl Tryz.prog 4 = none := by kernel_rfl
theorem ar4 : elemAr Tryz.prog 4 = none := by kernel_rfl
theorem bo4 : isBoolT Tryz.prog 4 = true := by kernel_rfl
theorem z4 : zeroD Tryz.prog 4 = some (.bool false) := by kernel_rfl
theorem c5 : Tryz.prog.cellsOf 5 = 1 := by kernel_rfl
theorem b5 : Tryz.prog.bytesOf 5 = 1 := by kernel_rfl
theorem a5 : aggT Tryz.prog 5 = false := by kernel_rfl
theorem us5 : (Tryz.prog.underlying 5).isSome = true := by kernel_rfl
theorem s5 : elemSl Tryz.prog 5 = none := by kernel_rfl
theorem ar5 : elemAr Tryz.prog 5 = none := by kernel_rfl
theorem k5 : Tryz.prog.underlying 5 = some (.int .u8) := by kernel_rfl
theorem z5 : zeroD Tryz.prog 5 = some (.int .u8 0) := by kernel_rfl
theorem c6 : Tryz.prog.cellsOf 6 = 1 := by kernel_rfl
theorem b6 : Tryz.prog.bytesOf 6 = 1 := by kernel_rfl
theorem a6 : aggT Tryz.prog 6 = false := by kernel_rfl
theorem us6 : (Tryz.prog.underlying 6).isSome = true := by kernel_rfl
theorem s6 : elemSl Tryz.prog 6 = none := by kernel_rfl
theorem ar6 : elemAr Tryz.prog 6 = none := by kernel_rfl
theorem k6 : Tryz.prog.underlying 6 = some (.int .u8) := by kernel_rfl
theorem z6 : zeroD Tryz.prog 6 = some (.int .u8 0) := by kernel_rfl
theorem c7 : Tryz.prog.cellsOf 7 = 4 := by kernel_rfl
theorem b7 : Tryz.prog.bytesOf 7 = 24 := by kernel_rfl
theorem a7 : aggT Tryz.prog 7 = true := by kernel_rfl
theorem us7 : (Tryz.prog.underlying 7).isSome = true := by kernel_rfl
theorem s7 : elemSl Tryz.prog 7 = none := by kernel_rfl
theorem ar7 : elemAr Tryz.prog 7 = none := by kernel_rfl
theorem z7 : zeroD Tryz.prog 7 = some (.agg [(.int .i64 0), (.int .i64 0), (.bool false), (.int .u8 0)]) := by kernel_rfl
theorem f7_0 : fieldOf Tryz.prog 7 0 = some (0, 2) := by kernel_rfl
theorem p7_0 : places Tryz.prog 7 0 = some (0, 1) := by kernel_rfl
theorem f7_1 : fieldOf Tryz.prog 7 1 = some (1, 3) := by kernel_rfl
theorem p7_1 : places Tryz.prog 7 1 = some (1, 1) := by kernel_rfl
theorem f7_2 : fieldOf Tryz.prog 7 2 = some (2, 4) := by kernel_rfl
theorem p7_2 : places Tryz.prog 7 2 = some (2, 1) := by kernel_rfl
theorem f7_3 : fieldOf Tryz.prog 7 3 = some (3, 6) := by kernel_rfl
theorem p7_3 : places Tryz.prog 7 3 = some (3, 1) := by kernel_rfl
theorem pu7 : partsU Tryz.prog 7 = true := by kernel_rfl
theorem c8 : Tryz.prog.cellsOf 8 = 4 := by kernel_rfl
theorem b8 : Tryz.prog.bytesOf 8 = 24 := by kernel_rfl
theorem a8 : aggT Tryz.prog 8 = true := by kernel_rfl
theorem us8 : (Tryz.prog.underlying 8).isSome = true := by kernel_rfl
theorem s8 : elemSl Tryz.prog 8 = none := by kernel_rfl
theorem ar8 : elemAr Tryz.prog 8 = none := by kernel_rfl
theorem z8 : zeroD Tryz.prog 8 = some (.agg [(.int .i64 0), (.int .i64 0), (.bool false), (.int .u8 0)]) := by kernel_rfl
theorem f8_0 : fieldOf Tryz.prog 8 0 = some (0, 2) := by kernel_rfl
theorem p8_0 : places Tryz.prog 8 0 = some (0, 1) := by kernel_rfl
theorem f8_1 : fieldOf Tryz.prog 8 1 = some (1, 3) := by kernel_rfl
theorem p8_1 : places Tryz.prog 8 1 = some (1, 1) := by kernel_rfl
theorem f8_2 : fieldOf Tryz.prog 8 2 = some (2, 4) := by kernel_rfl
theorem p8_2 : places Tryz.prog 8 2 = some (2, 1) := by kernel_rfl
theorem f8_3 : fieldOf Tryz.prog 8 3 = some (3, 6) := by kernel_rfl
theorem p8_3 : places Tryz.prog 8 3 = some (3, 1) := by kernel_rfl
theorem pu8 : partsU Tryz.prog 8 = true := by kernel_rfl
theorem c9 : Tryz.prog.cellsOf 9 = 1 := by kernel_rfl
theorem b9 : Tryz.prog.bytesOf 9 = 16 := by kernel_rfl
theorem a9 : aggT Tryz.prog 9 = false := by kernel_rfl
theorem us9 : (Tryz.prog.underlying 9).isSome = true := by kernel_rfl
theorem s9 : elemSl Tryz.prog 9 = none := by kernel_rfl
theorem ar9 : elemAr Tryz.prog 9 = none := by kernel_rfl
theorem st9 : isStrT Tryz.prog 9 = true := by kernel_rfl
theorem z9 : zeroD Tryz.prog 9 = some (.str ByteArray.empty) := by kernel_rfl
theorem c10 : Tryz.prog.cellsOf 10 = 1 := by kernel_rfl
theorem b10 : Tryz.prog.bytesOf 10 = 16 := by kernel_rfl
theorem a10 : aggT Tryz.prog 10 = false := by kernel_rfl
theorem us10 : (Tryz.prog.underlying 10).isSome = true := by kernel_rfl
theorem s10 : elemSl Tryz.prog 10 = none := by kernel_rfl
theorem ar10 : elemAr Tryz.prog 10 = none := by kernel_rfl
theorem st10 : isStrT Tryz.prog 10 = true := by kernel_rfl
theorem z10 : zeroD Tryz.prog 10 = some (.str ByteArray.empty) := by kernel_rfl
theorem c11 : Tryz.prog.cellsOf 11 = 1 := by kernel_rfl
theorem b11 : Tryz.prog.bytesOf 11 = 16 := by kernel_rfl
theorem a11 : aggT Tryz.prog 11 = false := by kernel_rfl
theorem us11 : (Tryz.prog.underlying 11).isSome = true := by kernel_rfl
theorem s11 : elemSl Tryz.prog 11 = none := by kernel_rfl
theorem ar11 : elemAr Tryz.prog 11 = none := by kernel_rfl
theorem st11 : isStrT Tryz.prog 11 = true := by kernel_rfl
theorem z11 : zeroD Tryz.prog 11 = some (.str ByteArray.empty) := by kernel_rfl
theorem c12 : Tryz.prog.cellsOf 12 = 1 := by kernel_rfl
theorem b12 : Tryz.prog.bytesOf 12 = 8 := by kernel_rfl
theorem a12 : aggT Tryz.prog 12 = false := by kernel_rfl
theorem us12 : (Tryz.prog.underlying 12).isSome = true := by kernel_rfl
theorem s12 : elemSl Tryz.prog 12 = none := by kernel_rfl
theorem ar12 : elemAr Tryz.prog 12 = none := by kernel_rfl
theorem k12 : Tryz.prog.underlying 12 = some (.int .u64) := by kernel_rfl
theorem z12 : zeroD Tryz.prog 12 = some (.int .u64 0) := by kernel_rfl
theorem c13 : Tryz.prog.cellsOf 13 = 2 := by kernel_rfl
theorem b13 : Tryz.prog.bytesOf 13 = 24 := by kernel_rfl
theorem a13 : aggT Tryz.prog 13 = true := by kernel_rfl
theorem us13 : (Tryz.prog.underlying 13).isSome = true := by kernel_rfl
theorem s13 : elemSl Tryz.prog 13 = none := by kernel_rfl
theorem ar13 : elemAr Tryz.prog 13 = none := by kernel_rfl
theorem z13 : zeroD Tryz.prog 13 = some (.agg [(.str ByteArray.empty), (.int .u64 0)]) := by kernel_rfl
theorem f13_0 : fieldOf Tryz.prog 13 0 = some (0, 9) := by kernel_rfl
theorem p13_0 : places Tryz.prog 13 0 = some (0, 1) := by kernel_rfl
theorem f13_1 : fieldOf Tryz.prog 13 1 = some (1, 12) := by kernel_rfl
theorem p13_1 : places Tryz.prog 13 1 = some (1, 1) := by kernel_rfl
theorem pu13 : partsU Tryz.prog 13 = true := by kernel_rfl
theorem c14 : Tryz.prog.cellsOf 14 = 2 := by kernel_rfl
theorem b14 : Tryz.prog.bytesOf 14 = 24 := by kernel_rfl
theorem a14 : aggT Tryz.prog 14 = true := by kernel_rfl
theorem us14 : (Tryz.prog.underlying 14).isSome = true := by kernel_rfl
theorem s14 : elemSl Tryz.prog 14 = none := by kernel_rfl
theorem ar14 : elemAr Tryz.prog 14 = none := by kernel_rfl
theorem z14 : zeroD Tryz.prog 14 = some (.agg [(.str ByteArray.empty), (.int .u64 0)]) := by kernel_rfl
theorem f14_0 : fieldOf Tryz.prog 14 0 = some (0, 9) := by kernel_rfl
theorem p14_0 : places Tryz.prog 14 0 = some (0, 1) := by kernel_rfl
theorem f14_1 : fieldOf Tryz.prog 14 1 = some (1, 12) := by kernel_rfl
theorem p14_1 : places Tryz.prog 14 1 = some (1, 1) := by kernel_rfl
theorem pu14 : partsU Tryz.prog 14 = true := by kernel_rfl
theorem c15 : Tryz.prog.cellsOf 15 = 1 := by kernel_rfl
theorem b15 : Tryz.prog.bytesOf 15 = 8 := by kernel_rfl
theorem a15 : aggT Tryz.prog 15 = false := by kernel_rfl
theorem us15 : (Tryz.prog.underlying 15).isSome = true := by kernel_rfl
theorem s15 : elemSl Tryz.prog 15 = none := by kernel_rfl
theorem ar15 : elemAr Tryz.prog 15 = none := by kernel_rfl
theorem z15 : zeroD Tryz.prog 15 = some .nilptr := by kernel_rfl
theorem c16 : Tryz.prog.cellsOf 16 = 1 := by kernel_rfl
theorem b16 : Tryz.prog.bytesOf 16 = 8 := by kernel_rfl
theorem a16 : aggT Tryz.prog 16 = false := by kernel_rfl
theorem us16 : (Tryz.prog.underlying 16).isSome = true := by kernel_rfl
theorem s16 : elemSl Tryz.prog 16 = none := by kernel_rfl
theorem ar16 : elemAr Tryz.prog 16 = none := by kernel_rfl
theorem z16 : zeroD Tryz.prog 16 = some .nilptr := by kernel_rfl
theorem c17 : Tryz.prog.cellsOf 17 = 1 := by kernel_rfl
theorem b17 : Tryz.prog.bytesOf 17 = 8 := by kernel_rfl
theorem a17 : aggT Tryz.prog 17 = false := by kernel_rfl
theorem us17 : (Tryz.prog.underlying 17).isSome = true := by kernel_rfl
theorem s17 : elemSl Tryz.prog 17 = none := by kernel_rfl
theorem ar17 : elemAr Tryz.prog 17 = none := by kernel_rfl
theorem z17 : zeroD Tryz.prog 17 = some .nilptr := by kernel_rfl
theorem c18 : Tryz.prog.cellsOf 18 = 1 := by kernel_rfl
theorem b18 : Tryz.prog.bytesOf 18 = 8 := by kernel_rfl
theorem a18 : aggT Tryz.prog 18 = true := by kernel_rfl
theorem us18 : (Tryz.prog.underlying 18).isSome = true := by kernel_rfl
theorem s18 : elemSl Tryz.prog 18 = none := by kernel_rfl
theorem ar18 : elemAr Tryz.prog 18 = none := by kernel_rfl
theorem z18 : zeroD Tryz.prog 18 = some (.agg [.nilptr]) := by kernel_rfl
theorem f18_0 : fieldOf Tryz.prog 18 0 = some (0, 17) := by kernel_rfl
theorem p18_0 : places Tryz.prog 18 0 = some (0, 1) := by kernel_rfl
theorem pu18 : partsU Tryz.prog 18 = true := by kernel_rfl
theorem c19 : Tryz.prog.cellsOf 19 = 1 := by kernel_rfl
theorem b19 : Tryz.prog.bytesOf 19 = 8 := by kernel_rfl
theorem a19 : aggT Tryz.prog 19 = true := by kernel_rfl
theorem us19 : (Tryz.prog.underlying 19).isSome = true := by kernel_rfl
theorem s19 : elemSl Tryz.prog 19 = none := by kernel_rfl
theorem ar19 : elemAr Tryz.prog 19 = none := by kernel_rfl
theorem z19 : zeroD Tryz.prog 19 = some (.agg [.nilptr]) := by kernel_rfl
theorem f19_0 : fieldOf Tryz.prog 19 0 = some (0, 17) := by kernel_rfl
theorem p19_0 : places Tryz.prog 19 0 = some (0, 1) := by kernel_rfl
theorem pu19 : partsU Tryz.prog 19 = true := by kernel_rfl
theorem c21 : Tryz.prog.cellsOf 21 = 1 := by kernel_rfl
theorem b21 : Tryz.prog.bytesOf 21 = 4 := by kernel_rfl
theorem a21 : aggT Tryz.prog 21 = false := by kernel_rfl
theorem us21 : (Tryz.prog.underlying 21).isSome = true := by kernel_rfl
theorem s21 : elemSl Tryz.prog 21 = none := by kernel_rfl
theorem ar21 : elemAr Tryz.prog 21 = none := by kernel_rfl
theorem k21 : Tryz.prog.underlying 21 = some (.int .i32) := by kernel_rfl
theorem z21 : zeroD Tryz.prog 21 = some (.int .i32 0) := by kernel_rfl
theorem c22 : Tryz.prog.cellsOf 22 = 1 := by kernel_rfl
theorem b22 : Tryz.prog.bytesOf 22 = 24 := by kernel_rfl
theorem a22 : aggT Tryz.prog 22 = false := by kernel_rfl
theorem us22 : (Tryz.prog.underlying 22).isSome = true := by kernel_rfl
theorem s22 : elemSl Tryz.prog 22 = some 49 := by kernel_rfl
theorem ar22 : elemAr Tryz.prog 22 = none := by kernel_rfl
theorem z22 : zeroD Tryz.prog 22 = some (.slice []) := by kernel_rfl
theorem c23 : Tryz.prog.cellsOf 23 = 2 := by kernel_rfl
theorem b23 : Tryz.prog.bytesOf 23 = 32 := by kernel_rfl
theorem a23 : aggT Tryz.prog 23 = true := by kernel_rfl
theorem us23 : (Tryz.prog.underlying 23).isSome = true := by kernel_rfl
theorem s23 : elemSl Tryz.prog 23 = none := by kernel_rfl
theorem ar23 : elemAr Tryz.prog 23 = none := by kernel_rfl
theorem z23 : zeroD Tryz.prog 23 = some (.agg [(.int .i64 0), (.slice [])]) := by kernel_rfl
theorem f23_0 : fieldOf Tryz.prog 23 0 = some (0, 3) := by kernel_rfl
theorem p23_0 : places Tryz.prog 23 0 = some (0, 1) := by kernel_rfl
theorem f23_1 : fieldOf Tryz.prog 23 1 = some (1, 22) := by kernel_rfl
theorem p23_1 : places Tryz.prog 23 1 = some (1, 1) := by kernel_rfl
theorem pu23 : partsU Tryz.prog 23 = true := by kernel_rfl
theorem c24 : Tryz.prog.cellsOf 24 = 2 := by kernel_rfl
theorem b24 : Tryz.prog.bytesOf 24 = 32 := by kernel_rfl
theorem a24 : aggT Tryz.prog 24 = true := by kernel_rfl
theorem us24 : (Tryz.prog.underlying 24).isSome = true := by kernel_rfl
theorem s24 : elemSl Tryz.prog 24 = none := by kernel_rfl
theorem ar24 : elemAr Tryz.prog 24 = none := by kernel_rfl
theorem z24 : zeroD Tryz.prog 24 = some (.agg [(.int .i64 0), (.slice [])]) := by kernel_rfl
theorem f24_0 : fieldOf Tryz.prog 24 0 = some (0, 3) := by kernel_rfl
theorem p24_0 : places Tryz.prog 24 0 = some (0, 1) := by kernel_rfl
theorem f24_1 : fieldOf Tryz.prog 24 1 = some (1, 22) := by kernel_rfl
theorem p24_1 : places Tryz.prog 24 1 = some (1, 1) := by kernel_rfl
theorem pu24 : partsU Tryz.prog 24 = true := by kernel_rfl
theorem c25 : Tryz.prog.cellsOf 25 = 1 := by kernel_rfl
theorem b25 : Tryz.prog.bytesOf 25 = 24 := by kernel_rfl
theorem a25 : aggT Tryz.prog 25 = false := by kernel_rfl
theorem us25 : (Tryz.prog.underlying 25).isSome = true := by kernel_rfl
theorem s25 : elemSl Tryz.prog 25 = some 51 := by kernel_rfl
theorem ar25 : elemAr Tryz.prog 25 = none := by kernel_rfl
theorem z25 : zeroD Tryz.prog 25 = some (.slice []) := by kernel_rfl
theorem c30 : Tryz.prog.cellsOf 30 = 2 := by kernel_rfl
theorem b30 : Tryz.prog.bytesOf 30 = 32 := by kernel_rfl
theorem a30 : aggT Tryz.prog 30 = true := by kernel_rfl
theorem us30 : (Tryz.prog.underlying 30).isSome = true := by kernel_rfl
theorem s30 : elemSl Tryz.prog 30 = none := by kernel_rfl
theorem ar30 : elemAr Tryz.prog 30 = none := by kernel_rfl
theorem z30 : zeroD Tryz.prog 30 = some (.agg [(.int .i64 0), (.slice [])]) := by kernel_rfl
theorem f30_0 : fieldOf Tryz.prog 30 0 = some (0, 3) := by kernel_rfl
theorem p30_0 : places Tryz.prog 30 0 = some (0, 1) := by kernel_rfl
theorem f30_1 : fieldOf Tryz.prog 30 1 = some (1, 22) := by kernel_rfl
theorem p30_1 : places Tryz.prog 30 1 = some (1, 1) := by kernel_rfl
theorem pu30 : partsU Tryz.prog 30 = true := by kernel_rfl
theorem c32 : Tryz.prog.cellsOf 32 = 1 := by kernel_rfl
theorem b32 : Tryz.prog.bytesOf 32 = 24 := by kernel_rfl
theorem a32 : aggT Tryz.prog 32 = false := by kernel_rfl
theorem us32 : (Tryz.prog.underlying 32).isSome = true := by kernel_rfl
theorem s32 : elemSl Tryz.prog 32 = some 55 := by kernel_rfl
theorem ar32 : elemAr Tryz.prog 32 = none := by kernel_rfl
theorem z32 : zeroD Tryz.prog 32 = some (.slice []) := by kernel_rfl
theorem c37 : Tryz.prog.cellsOf 37 = 6 := by kernel_rfl
theorem b37 : Tryz.prog.bytesOf 37 = 80 := by kernel_rfl
theorem a37 : aggT Tryz.prog 37 = true := by kernel_rfl
theorem us37 : (Tryz.prog.underlying 37).isSome = true := by kernel_rfl
theorem s37 : elemSl Tryz.prog 37 = none := by kernel_rfl
theorem ar37 : elemAr Tryz.prog 37 = none := by kernel_rfl
theorem z37 : zeroD Tryz.prog 37 = some (.agg [(.int .i64 0), (.int .i64 0), (.slice []), (.slice []), (.int .i64 0), (.int .i64 0)]) := by kernel_rfl
theorem f37_0 : fieldOf Tryz.prog 37 0 = some (0, 3) := by kernel_rfl
theorem p37_0 : places Tryz.prog 37 0 = some (0, 1) := by kernel_rfl
theorem f37_1 : fieldOf Tryz.prog 37 1 = some (1, 24) := by kernel_rfl
theorem p37_1 : places Tryz.prog 37 1 = some (1, 2) := by kernel_rfl
theorem f37_2 : fieldOf Tryz.prog 37 2 = some (3, 25) := by kernel_rfl
theorem p37_2 : places Tryz.prog 37 2 = some (3, 1) := by kernel_rfl
theorem f37_3 : fieldOf Tryz.prog 37 3 = some (4, 3) := by kernel_rfl
theorem p37_3 : places Tryz.prog 37 3 = some (4, 1) := by kernel_rfl
theorem f37_4 : fieldOf Tryz.prog 37 4 = some (5, 3) := by kernel_rfl
theorem p37_4 : places Tryz.prog 37 4 = some (5, 1) := by kernel_rfl
theorem pu37 : partsU Tryz.prog 37 = true := by kernel_rfl
theorem c38 : Tryz.prog.cellsOf 38 = 6 := by kernel_rfl
theorem b38 : Tryz.prog.bytesOf 38 = 80 := by kernel_rfl
theorem a38 : aggT Tryz.prog 38 = true := by kernel_rfl
theorem us38 : (Tryz.prog.underlying 38).isSome = true := by kernel_rfl
theorem s38 : elemSl Tryz.prog 38 = none := by kernel_rfl
theorem ar38 : elemAr Tryz.prog 38 = none := by kernel_rfl
theorem z38 : zeroD Tryz.prog 38 = some (.agg [(.int .i64 0), (.int .i64 0), (.slice []), (.slice []), (.int .i64 0), (.int .i64 0)]) := by kernel_rfl
theorem f38_0 : fieldOf Tryz.prog 38 0 = some (0, 3) := by kernel_rfl
theorem p38_0 : places Tryz.prog 38 0 = some (0, 1) := by kernel_rfl
theorem f38_1 : fieldOf Tryz.prog 38 1 = some (1, 24) := by kernel_rfl
theorem p38_1 : places Tryz.prog 38 1 = some (1, 2) := by kernel_rfl
theorem f38_2 : fieldOf Tryz.prog 38 2 = some (3, 25) := by kernel_rfl
theorem p38_2 : places Tryz.prog 38 2 = some (3, 1) := by kernel_rfl
theorem f38_3 : fieldOf Tryz.prog 38 3 = some (4, 3) := by kernel_rfl
theorem p38_3 : places Tryz.prog 38 3 = some (4, 1) := by kernel_rfl
theorem f38_4 : fieldOf Tryz.prog 38 4 = some (5, 3) := by kernel_rfl
theorem p38_4 : places Tryz.prog 38 4 = some (5, 1) := by kernel_rfl
theorem pu38 : partsU Tryz.prog 38 = true := by kernel_rfl
theorem c42 : Tryz.prog.cellsOf 42 = 6 := by kernel_rfl
theorem b42 : Tryz.prog.bytesOf 42 = 80 := by kernel_rfl
theorem a42 : aggT Tryz.prog 42 = true := by kernel_rfl
theorem us42 : (Tryz.prog.underlying 42).isSome = true := by kernel_rfl
theorem s42 : elemSl Tryz.prog 42 = none := by kernel_rfl
theorem ar42 : elemAr Tryz.prog 42 = none := by kernel_rfl
theorem z42 : zeroD Tryz.prog 42 = some (.agg [(.int .i64 0), (.int .i64 0), (.slice []), (.slice []), (.int .i64 0), (.int .i64 0)]) := by kernel_rfl
theorem f42_0 : fieldOf Tryz.prog 42 0 = some (0, 3) := by kernel_rfl
theorem p42_0 : places Tryz.prog 42 0 = some (0, 1) := by kernel_rfl
theorem f42_1 : fieldOf Tryz.prog 42 1 = some (1, 30) := by kernel_rfl
theorem p42_1 : places Tryz.prog 42 1 = some (1, 2) := by kernel_rfl
theorem f42_2 : fieldOf Tryz.prog 42 2 = some (3, 32) := by kernel_rfl
theorem p42_2 : places Tryz.prog 42 2 = some (3, 1) := by kernel_rfl
theorem f42_3 : fieldOf Tryz.prog 42 3 = some (4, 3) := by kernel_rfl
theorem p42_3 : places Tryz.prog 42 3 = some (4, 1) := by kernel_rfl
theorem f42_4 : fieldOf Tryz.prog 42 4 = some (5, 3) := by kernel_rfl
theorem p42_4 : places Tryz.prog 42 4 = some (5, 1) := by kernel_rfl
theorem pu42 : partsU Tryz.prog 42 = true := by kernel_rfl
theorem c43 : Tryz.prog.cellsOf 43 = 6 := by kernel_rfl
theorem b43 : Tryz.prog.bytesOf 43 = 80 := by kernel_rfl
theorem a43 : aggT Tryz.prog 43 = true := by kernel_rfl
theorem us43 : (Tryz.prog.underlying 43).isSome = true := by kernel_rfl
theorem s43 : elemSl Tryz.prog 43 = none := by kernel_rfl
theorem ar43 : elemAr Tryz.prog 43 = none := by kernel_rfl
theorem z43 : zeroD Tryz.prog 43 = some (.agg [(.int .i64 0), (.int .i64 0), (.slice []), (.slice []), (.int .i64 0), (.int .i64 0)]) := by kernel_rfl
theorem f43_0 : fieldOf Tryz.prog 43 0 = some (0, 3) := by kernel_rfl
theorem p43_0 : places Tryz.prog 43 0 = some (0, 1) := by kernel_rfl
theorem f43_1 : fieldOf Tryz.prog 43 1 = some (1, 30) := by kernel_rfl
theorem p43_1 : places Tryz.prog 43 1 = some (1, 2) := by kernel_rfl
theorem f43_2 : fieldOf Tryz.prog 43 2 = some (3, 32) := by kernel_rfl
theorem p43_2 : places Tryz.prog 43 2 = some (3, 1) := by kernel_rfl
theorem f43_3 : fieldOf Tryz.prog 43 3 = some (4, 3) := by kernel_rfl
theorem p43_3 : places Tryz.prog 43 3 = some (4, 1) := by kernel_rfl
theorem f43_4 : fieldOf Tryz.prog 43 4 = some (5, 3) := by kernel_rfl
theorem p43_4 : places Tryz.prog 43 4 = some (5, 1) := by kernel_rfl
theorem pu43 : partsU Tryz.prog 43 = true := by kernel_rfl
theorem c49 : Tryz.prog.cellsOf 49 = 1 := by kernel_rfl
theorem b49 : Tryz.prog.bytesOf 49 = 24 := by kernel_rfl
theorem a49 : aggT Tryz.prog 49 = false := by kernel_rfl
theorem us49 : (Tryz.prog.underlying 49).isSome = true := by kernel_rfl
theorem s49 : elemSl Tryz.prog 49 = some 3 := by kernel_rfl
theorem ar49 : elemAr Tryz.prog 49 = none := by kernel_rfl
theorem z49 : zeroD Tryz.prog 49 = some (.slice []) := by kernel_rfl
theorem c50 : Tryz.prog.cellsOf 50 = 4 := by kernel_rfl
theorem b50 : Tryz.prog.bytesOf 50 = 48 := by kernel_rfl
theorem a50 : aggT Tryz.prog 50 = true := by kernel_rfl
theorem us50 : (Tryz.prog.underlying 50).isSome = true := by kernel_rfl
theorem s50 : elemSl Tryz.prog 50 = none := by kernel_rfl
theorem ar50 : elemAr Tryz.prog 50 = none := by kernel_rfl
theorem z50 : zeroD Tryz.prog 50 = some (.agg [(.slice []), (.int .i64 0), (.int .i64 0), (.int .i64 0)]) := by kernel_rfl
theorem f50_0 : fieldOf Tryz.prog 50 0 = some (0, 49) := by kernel_rfl
theorem p50_0 : places Tryz.prog 50 0 = some (0, 1) := by kernel_rfl
theorem f50_1 : fieldOf Tryz.prog 50 1 = some (1, 3) := by kernel_rfl
theorem p50_1 : places Tryz.prog 50 1 = some (1, 1) := by kernel_rfl
theorem f50_2 : fieldOf Tryz.prog 50 2 = some (2, 3) := by kernel_rfl
theorem p50_2 : places Tryz.prog 50 2 = some (2, 1) := by kernel_rfl
theorem f50_3 : fieldOf Tryz.prog 50 3 = some (3, 3) := by kernel_rfl
theorem p50_3 : places Tryz.prog 50 3 = some (3, 1) := by kernel_rfl
theorem pu50 : partsU Tryz.prog 50 = true := by kernel_rfl
theorem c51 : Tryz.prog.cellsOf 51 = 4 := by kernel_rfl
theorem b51 : Tryz.prog.bytesOf 51 = 48 := by kernel_rfl
theorem a51 : aggT Tryz.prog 51 = true := by kernel_rfl
theorem us51 : (Tryz.prog.underlying 51).isSome = true := by kernel_rfl
theorem s51 : elemSl Tryz.prog 51 = none := by kernel_rfl
theorem ar51 : elemAr Tryz.prog 51 = none := by kernel_rfl
theorem z51 : zeroD Tryz.prog 51 = some (.agg [(.slice []), (.int .i64 0), (.int .i64 0), (.int .i64 0)]) := by kernel_rfl
theorem f51_0 : fieldOf Tryz.prog 51 0 = some (0, 49) := by kernel_rfl
theorem p51_0 : places Tryz.prog 51 0 = some (0, 1) := by kernel_rfl
theorem f51_1 : fieldOf Tryz.prog 51 1 = some (1, 3) := by kernel_rfl
theorem p51_1 : places Tryz.prog 51 1 = some (1, 1) := by kernel_rfl
theorem f51_2 : fieldOf Tryz.prog 51 2 = some (2, 3) := by kernel_rfl
theorem p51_2 : places Tryz.prog 51 2 = some (2, 1) := by kernel_rfl
theorem f51_3 : fieldOf Tryz.prog 51 3 = some (3, 3) := by kernel_rfl
theorem p51_3 : places Tryz.prog 51 3 = some (3, 1) := by kernel_rfl
theorem pu51 : partsU Tryz.prog 51 = true := by kernel_rfl
theorem c55 : Tryz.prog.cellsOf 55 = 4 := by kernel_rfl
theorem b55 : Tryz.prog.bytesOf 55 = 48 := by kernel_rfl
theorem a55 : aggT Tryz.prog 55 = true := by kernel_rfl
theorem us55 : (Tryz.prog.underlying 55).isSome = true := by kernel_rfl
theorem s55 : elemSl Tryz.prog 55 = none := by kernel_rfl
theorem ar55 : elemAr Tryz.prog 55 = none := by kernel_rfl
theorem z55 : zeroD Tryz.prog 55 = some (.agg [(.slice []), (.int .i64 0), (.int .i64 0), (.int .i64 0)]) := by kernel_rfl
theorem f55_0 : fieldOf Tryz.prog 55 0 = some (0, 49) := by kernel_rfl
theorem p55_0 : places Tryz.prog 55 0 = some (0, 1) := by kernel_rfl
theorem f55_1 : fieldOf Tryz.prog 55 1 = some (1, 3) := by kernel_rfl
theorem p55_1 : places Tryz.prog 55 1 = some (1, 1) := by kernel_rfl
theorem f55_2 : fieldOf Tryz.prog 55 2 = some (2, 3) := by kernel_rfl
theorem p55_2 : places Tryz.prog 55 2 = some (2, 1) := by kernel_rfl
theorem f55_3 : fieldOf Tryz.prog 55 3 = some (3, 3) := by kernel_rfl
theorem p55_3 : places Tryz.prog 55 3 = some (3, 1) := by kernel_rfl
theorem pu55 : partsU Tryz.prog 55 = true := by kernel_rfl
theorem c95 : Tryz.prog.cellsOf 95 = 1 := by kernel_rfl
theorem b95 : Tryz.prog.bytesOf 95 = 8 := by kernel_rfl
theorem a95 : aggT Tryz.prog 95 = false := by kernel_rfl
theorem us95 : (Tryz.prog.underlying 95).isSome = true := by kernel_rfl
theorem s95 : elemSl Tryz.prog 95 = none := by kernel_rfl
theorem ar95 : elemAr Tryz.prog 95 = none := by kernel_rfl
theorem k95 : Tryz.prog.underlying 95 = some (.int .u64) := by kernel_rfl
theorem z95 : zeroD Tryz.prog 95 = some (.int .u64 0) := by kernel_rfl
theorem c98 : Tryz.prog.cellsOf 98 = 1 := by kernel_rfl
theorem b98 : Tryz.prog.bytesOf 98 = 8 := by kernel_rfl
theorem a98 : aggT Tryz.prog 98 = false := by kernel_rfl
theorem us98 : (Tryz.prog.underlying 98).isSome = true := by kernel_rfl
theorem s98 : elemSl Tryz.prog 98 = none := by kernel_rfl
theorem ar98 : elemAr Tryz.prog 98 = none := by kernel_rfl
theorem k98 : Tryz.prog.underlying 98 = some (.int .i64) := by kernel_rfl
theorem z98 : zeroD Tryz.prog 98 = some (.int .i64 0) := by kernel_rfl
theorem c105 : Tryz.prog.cellsOf 105 = 1 := by kernel_rfl
theorem b105 : Tryz.prog.bytesOf 105 = 4 := by kernel_rfl
theorem a105 : aggT Tryz.prog 105 = false := by kernel_rfl
theorem us105 : (Tryz.prog.underlying 105).isSome = true := by kernel_rfl
theorem s105 : elemSl Tryz.prog 105 = none := by kernel_rfl
theorem ar105 : elemAr Tryz.prog 105 = none := by kernel_rfl
theorem k105 : Tryz.prog.underlying 105 = some (.int .u32) := by kernel_rfl
theorem z105 : zeroD Tryz.prog 105 = some (.int .u32 0) := by kernel_rfl
theorem c107 : Tryz.prog.cellsOf 107 = 1 := by kernel_rfl
theorem b107 : Tryz.prog.bytesOf 107 = 8 := by kernel_rfl
theorem a107 : aggT Tryz.prog 107 = false := by kernel_rfl
theorem us107 : (Tryz.prog.underlying 107).isSome = true := by kernel_rfl
theorem s107 : elemSl Tryz.prog 107 = none := by kernel_rfl
theorem ar107 : elemAr Tryz.prog 107 = none := by kernel_rfl
theorem k107 : Tryz.prog.underlying 107 = some (.int .u64) := by kernel_rfl
theorem z107 : zeroD Tryz.prog 107 = some (.int .u64 0) := by kernel_rfl
theorem c108 : Tryz.prog.cellsOf 108 = 1 := by kernel_rfl
theorem b108 : Tryz.prog.bytesOf 108 = 8 := by kernel_rfl
theorem a108 : aggT Tryz.prog 108 = false := by kernel_rfl
theorem us108 : (Tryz.prog.underlying 108).isSome = true := by kernel_rfl
theorem s108 : elemSl Tryz.prog 108 = none := by kernel_rfl
theorem ar108 : elemAr Tryz.prog 108 = none := by kernel_rfl
theorem k108 : Tryz.prog.underlying 108 = some (.int .u64) := by kernel_rfl
theorem z108 : zeroD Tryz.prog 108 = some (.int .u64 0) := by kernel_rfl
theorem c112 : Tryz.prog.cellsOf 112 = 1 := by kernel_rfl
theorem b112 : Tryz.prog.bytesOf 112 = 8 := by kernel_rfl
theorem a112 : aggT Tryz.prog 112 = false := by kernel_rfl
theorem us112 : (Tryz.prog.underlying 112).isSome = true := by kernel_rfl
theorem s112 : elemSl Tryz.prog 112 = none := by kernel_rfl
theorem ar112 : elemAr Tryz.prog 112 = none := by kernel_rfl
theorem z112 : zeroD Tryz.prog 112 = some .nilptr := by kernel_rfl
theorem c114 : Tryz.prog.cellsOf 114 = 1 := by kernel_rfl
theorem b114 : Tryz.prog.bytesOf 114 = 8 := by kernel_rfl
theorem a114 : aggT Tryz.prog 114 = false := by kernel_rfl
theorem us114 : (Tryz.prog.underlying 114).isSome = true := by kernel_rfl
theorem s114 : elemSl Tryz.prog 114 = none := by kernel_rfl
theorem ar114 : elemAr Tryz.prog 114 = none := by kernel_rfl
theorem z114 : zeroD Tryz.prog 114 = some .nilptr := by kernel_rfl
theorem c118 : Tryz.prog.cellsOf 118 = 4 := by kernel_rfl
theorem b118 : Tryz.prog.bytesOf 118 = 40 := by kernel_rfl
theorem a118 : aggT Tryz.prog 118 = true := by kernel_rfl
theorem us118 : (Tryz.prog.underlying 118).isSome = true := by kernel_rfl
theorem s118 : elemSl Tryz.prog 118 = none := by kernel_rfl
theorem ar118 : elemAr Tryz.prog 118 = none := by kernel_rfl
theorem z118 : zeroD Tryz.prog 118 = some (.agg [.nilptr, .nilptr, .nilptr, (.str ByteArray.empty)]) := by kernel_rfl
theorem f118_0 : fieldOf Tryz.prog 118 0 = some (0, 17) := by kernel_rfl
theorem p118_0 : places Tryz.prog 118 0 = some (0, 1) := by kernel_rfl
theorem f118_1 : fieldOf Tryz.prog 118 1 = some (1, 17) := by kernel_rfl
theorem p118_1 : places Tryz.prog 118 1 = some (1, 1) := by kernel_rfl
theorem f118_2 : fieldOf Tryz.prog 118 2 = some (2, 17) := by kernel_rfl
theorem p118_2 : places Tryz.prog 118 2 = some (2, 1) := by kernel_rfl
theorem f118_3 : fieldOf Tryz.prog 118 3 = some (3, 9) := by kernel_rfl
theorem p118_3 : places Tryz.prog 118 3 = some (3, 1) := by kernel_rfl
theorem pu118 : partsU Tryz.prog 118 = true := by kernel_rfl
theorem c119 : Tryz.prog.cellsOf 119 = 4 := by kernel_rfl
theorem b119 : Tryz.prog.bytesOf 119 = 40 := by kernel_rfl
theorem a119 : aggT Tryz.prog 119 = true := by kernel_rfl
theorem us119 : (Tryz.prog.underlying 119).isSome = true := by kernel_rfl
theorem s119 : elemSl Tryz.prog 119 = none := by kernel_rfl
theorem ar119 : elemAr Tryz.prog 119 = none := by kernel_rfl
theorem z119 : zeroD Tryz.prog 119 = some (.agg [.nilptr, .nilptr, .nilptr, (.str ByteArray.empty)]) := by kernel_rfl
theorem f119_0 : fieldOf Tryz.prog 119 0 = some (0, 17) := by kernel_rfl
theorem p119_0 : places Tryz.prog 119 0 = some (0, 1) := by kernel_rfl
theorem f119_1 : fieldOf Tryz.prog 119 1 = some (1, 17) := by kernel_rfl
theorem p119_1 : places Tryz.prog 119 1 = some (1, 1) := by kernel_rfl
theorem f119_2 : fieldOf Tryz.prog 119 2 = some (2, 17) := by kernel_rfl
theorem p119_2 : places Tryz.prog 119 2 = some (2, 1) := by kernel_rfl
theorem f119_3 : fieldOf Tryz.prog 119 3 = some (3, 9) := by kernel_rfl
theorem p119_3 : places Tryz.prog 119 3 = some (3, 1) := by kernel_rfl
theorem pu119 : partsU Tryz.prog 119 = true := by kernel_rfl
theorem c120 : Tryz.prog.cellsOf 120 = 0 := by kernel_rfl
theorem b120 : Tryz.prog.bytesOf 120 = 0 := by kernel_rfl
theorem a120 : aggT Tryz.prog 120 = true := by kernel_rfl
theorem us120 : (Tryz.prog.underlying 120).isSome = true := by kernel_rfl
theorem s120 : elemSl Tryz.prog 120 = none := by kernel_rfl
theorem ar120 : elemAr Tryz.prog 120 = some (0, 16) := by kernel_rfl
theorem z120 : zeroD Tryz.prog 120 = some (.agg []) := by kernel_rfl
theorem pu120 : partsU Tryz.prog 120 = true := by kernel_rfl
theorem c121 : Tryz.prog.cellsOf 121 = 0 := by kernel_rfl
theorem b121 : Tryz.prog.bytesOf 121 = 0 := by kernel_rfl
theorem a121 : aggT Tryz.prog 121 = true := by kernel_rfl
theorem us121 : (Tryz.prog.underlying 121).isSome = true := by kernel_rfl
theorem s121 : elemSl Tryz.prog 121 = none := by kernel_rfl
theorem ar121 : elemAr Tryz.prog 121 = none := by kernel_rfl
theorem z121 : zeroD Tryz.prog 121 = some (.agg []) := by kernel_rfl
theorem f121_0 : fieldOf Tryz.prog 121 0 = some (0, 120) := by kernel_rfl
theorem p121_0 : places Tryz.prog 121 0 = some (0, 0) := by kernel_rfl
theorem pu121 : partsU Tryz.prog 121 = true := by kernel_rfl
theorem c122 : Tryz.prog.cellsOf 122 = 0 := by kernel_rfl
theorem b122 : Tryz.prog.bytesOf 122 = 0 := by kernel_rfl
theorem a122 : aggT Tryz.prog 122 = true := by kernel_rfl
theorem us122 : (Tryz.prog.underlying 122).isSome = true := by kernel_rfl
theorem s122 : elemSl Tryz.prog 122 = none := by kernel_rfl
theorem ar122 : elemAr Tryz.prog 122 = none := by kernel_rfl
theorem z122 : zeroD Tryz.prog 122 = some (.agg []) := by kernel_rfl
theorem f122_0 : fieldOf Tryz.prog 122 0 = some (0, 120) := by kernel_rfl
theorem p122_0 : places Tryz.prog 122 0 = some (0, 0) := by kernel_rfl
theorem pu122 : partsU Tryz.prog 122 = true := by kernel_rfl
theorem c124 : Tryz.prog.cellsOf 124 = 1 := by kernel_rfl
theorem b124 : Tryz.prog.bytesOf 124 = 1 := by kernel_rfl
theorem a124 : aggT Tryz.prog 124 = false := by kernel_rfl
theorem us124 : (Tryz.prog.underlying 124).isSome = true := by kernel_rfl
theorem s124 : elemSl Tryz.prog 124 = none := by kernel_rfl
theorem ar124 : elemAr Tryz.prog 124 = none := by kernel_rfl
theorem k124 : Tryz.prog.underlying 124 = some (.int .u8) := by kernel_rfl
theorem z124 : zeroD Tryz.prog 124 = some (.int .u8 0) := by kernel_rfl
theorem c125 : Tryz.prog.cellsOf 125 = 1 := by kernel_rfl
theorem b125 : Tryz.prog.bytesOf 125 = 1 := by kernel_rfl
theorem a125 : aggT Tryz.prog 125 = false := by kernel_rfl
theorem us125 : (Tryz.prog.underlying 125).isSome = true := by kernel_rfl
theorem s125 : elemSl Tryz.prog 125 = none := by kernel_rfl
theorem ar125 : elemAr Tryz.prog 125 = none := by kernel_rfl
theorem k125 : Tryz.prog.underlying 125 = some (.int .u8) := by kernel_rfl
theorem z125 : zeroD Tryz.prog 125 = some (.int .u8 0) := by kernel_rfl
theorem c127 : Tryz.prog.cellsOf 127 = 1 := by kernel_rfl
theorem b127 : Tryz.prog.bytesOf 127 = 8 := by kernel_rfl
theorem a127 : aggT Tryz.prog 127 = false := by kernel_rfl
theorem us127 : (Tryz.prog.underlying 127).isSome = true := by kernel_rfl
theorem s127 : elemSl Tryz.prog 127 = none := by kernel_rfl
theorem ar127 : elemAr Tryz.prog 127 = none := by kernel_rfl
theorem z127 : zeroD Tryz.prog 127 = some .nilptr := by kernel_rfl
theorem c128 : Tryz.prog.cellsOf 128 = 1 := by kernel_rfl
theorem b128 : Tryz.prog.bytesOf 128 = 4 := by kernel_rfl
theorem a128 : aggT Tryz.prog 128 = false := by kernel_rfl
theorem us128 : (Tryz.prog.underlying 128).isSome = true := by kernel_rfl
theorem s128 : elemSl Tryz.prog 128 = none := by kernel_rfl
theorem ar128 : elemAr Tryz.prog 128 = none := by kernel_rfl
theorem k128 : Tryz.prog.underlying 128 = some (.int .i32) := by kernel_rfl
theorem z128 : zeroD Tryz.prog 128 = some (.int .i32 0) := by kernel_rfl
theorem c129 : Tryz.prog.cellsOf 129 = 1 := by kernel_rfl
theorem b129 : Tryz.prog.bytesOf 129 = 4 := by kernel_rfl
theorem a129 : aggT Tryz.prog 129 = false := by kernel_rfl
theorem us129 : (Tryz.prog.underlying 129).isSome = true := by kernel_rfl
theorem s129 : elemSl Tryz.prog 129 = none := by kernel_rfl
theorem ar129 : elemAr Tryz.prog 129 = none := by kernel_rfl
theorem k129 : Tryz.prog.underlying 129 = some (.int .i32) := by kernel_rfl
theorem z129 : zeroD Tryz.prog 129 = some (.int .i32 0) := by kernel_rfl
theorem c130 : Tryz.prog.cellsOf 130 = 11 := by kernel_rfl
theorem b130 : Tryz.prog.bytesOf 130 = 48 := by kernel_rfl
theorem a130 : aggT Tryz.prog 130 = true := by kernel_rfl
theorem us130 : (Tryz.prog.underlying 130).isSome = true := by kernel_rfl
theorem s130 : elemSl Tryz.prog 130 = none := by kernel_rfl
theorem ar130 : elemAr Tryz.prog 130 = none := by kernel_rfl
theorem z130 : zeroD Tryz.prog 130 = some (.agg [(.int .u64 0), (.int .u64 0), (.int .u32 0), (.int .u8 0), (.int .u8 0), (.int .u8 0), (.int .u8 0), .nilfn, .nilptr, (.int .i32 0), (.int .i32 0)]) := by kernel_rfl
theorem f130_0 : fieldOf Tryz.prog 130 0 = some (0, 12) := by kernel_rfl
theorem p130_0 : places Tryz.prog 130 0 = some (0, 1) := by kernel_rfl
theorem f130_1 : fieldOf Tryz.prog 130 1 = some (1, 12) := by kernel_rfl
theorem p130_1 : places Tryz.prog 130 1 = some (1, 1) := by kernel_rfl
theorem f130_2 : fieldOf Tryz.prog 130 2 = some (2, 105) := by kernel_rfl
theorem p130_2 : places Tryz.prog 130 2 = some (2, 1) := by kernel_rfl
theorem f130_3 : fieldOf Tryz.prog 130 3 = some (3, 124) := by kernel_rfl
theorem p130_3 : places Tryz.prog 130 3 = some (3, 1) := by kernel_rfl
theorem f130_4 : fieldOf Tryz.prog 130 4 = some (4, 5) := by kernel_rfl
theorem p130_4 : places Tryz.prog 130 4 = some (4, 1) := by kernel_rfl
theorem f130_5 : fieldOf Tryz.prog 130 5 = some (5, 5) := by kernel_rfl
theorem p130_5 : places Tryz.prog 130 5 = some (5, 1) := by kernel_rfl
theorem f130_6 : fieldOf Tryz.prog 130 6 = some (6, 125) := by kernel_rfl
theorem p130_6 : places Tryz.prog 130 6 = some (6, 1) := by kernel_rfl
theorem f130_7 : fieldOf Tryz.prog 130 7 = some (7, 126) := by kernel_rfl
theorem f130_8 : fieldOf Tryz.prog 130 8 = some (8, 127) := by kernel_rfl
theorem p130_8 : places Tryz.prog 130 8 = some (8, 1) := by kernel_rfl
theorem f130_9 : fieldOf Tryz.prog 130 9 = some (9, 128) := by kernel_rfl
theorem p130_9 : places Tryz.prog 130 9 = some (9, 1) := by kernel_rfl
theorem f130_10 : fieldOf Tryz.prog 130 10 = some (10, 129) := by kernel_rfl
theorem p130_10 : places Tryz.prog 130 10 = some (10, 1) := by kernel_rfl
theorem pu130 : partsU Tryz.prog 130 = true := by kernel_rfl
theorem c131 : Tryz.prog.cellsOf 131 = 11 := by kernel_rfl
theorem b131 : Tryz.prog.bytesOf 131 = 48 := by kernel_rfl
theorem a131 : aggT Tryz.prog 131 = true := by kernel_rfl
theorem us131 : (Tryz.prog.underlying 131).isSome = true := by kernel_rfl
theorem s131 : elemSl Tryz.prog 131 = none := by kernel_rfl
theorem ar131 : elemAr Tryz.prog 131 = none := by kernel_rfl
theorem z131 : zeroD Tryz.prog 131 = some (.agg [(.int .u64 0), (.int .u64 0), (.int .u32 0), (.int .u8 0), (.int .u8 0), (.int .u8 0), (.int .u8 0), .nilfn, .nilptr, (.int .i32 0), (.int .i32 0)]) := by kernel_rfl
theorem f131_0 : fieldOf Tryz.prog 131 0 = some (0, 12) := by kernel_rfl
theorem p131_0 : places Tryz.prog 131 0 = some (0, 1) := by kernel_rfl
theorem f131_1 : fieldOf Tryz.prog 131 1 = some (1, 12) := by kernel_rfl
theorem p131_1 : places Tryz.prog 131 1 = some (1, 1) := by kernel_rfl
theorem f131_2 : fieldOf Tryz.prog 131 2 = some (2, 105) := by kernel_rfl
theorem p131_2 : places Tryz.prog 131 2 = some (2, 1) := by kernel_rfl
theorem f131_3 : fieldOf Tryz.prog 131 3 = some (3, 124) := by kernel_rfl
theorem p131_3 : places Tryz.prog 131 3 = some (3, 1) := by kernel_rfl
theorem f131_4 : fieldOf Tryz.prog 131 4 = some (4, 5) := by kernel_rfl
theorem p131_4 : places Tryz.prog 131 4 = some (4, 1) := by kernel_rfl
theorem f131_5 : fieldOf Tryz.prog 131 5 = some (5, 5) := by kernel_rfl
theorem p131_5 : places Tryz.prog 131 5 = some (5, 1) := by kernel_rfl
theorem f131_6 : fieldOf Tryz.prog 131 6 = some (6, 125) := by kernel_rfl
theorem p131_6 : places Tryz.prog 131 6 = some (6, 1) := by kernel_rfl
theorem f131_7 : fieldOf Tryz.prog 131 7 = some (7, 126) := by kernel_rfl
theorem f131_8 : fieldOf Tryz.prog 131 8 = some (8, 127) := by kernel_rfl
theorem p131_8 : places Tryz.prog 131 8 = some (8, 1) := by kernel_rfl
theorem f131_9 : fieldOf Tryz.prog 131 9 = some (9, 128) := by kernel_rfl
theorem p131_9 : places Tryz.prog 131 9 = some (9, 1) := by kernel_rfl
theorem f131_10 : fieldOf Tryz.prog 131 10 = some (10, 129) := by kernel_rfl
theorem p131_10 : places Tryz.prog 131 10 = some (10, 1) := by kernel_rfl
theorem pu131 : partsU Tryz.prog 131 = true := by kernel_rfl
attribute [go_sem] c2 b2 a2 us2 s2 ar2 k2 z2 c3 b3 a3 us3 s3 ar3 k3 z3 c4 b4 a4 us4 s4 ar4 bo4 z4 c5 b5 a5 us5 s5 ar5 k5 z5 c6 b6 a6 us6 s6 ar6 k6 z6
attribute [go_sem] c7 b7 a7 us7 s7 ar7 z7 f7_0 p7_0 f7_1 p7_1 f7_2 p7_2 f7_3 p7_3 pu7 c8 b8 a8 us8 s8 ar8 z8 f8_0 p8_0 f8_1 p8_1 f8_2 p8_2 f8_3 p8_3 pu8 c9 b9 a9 us9 s9 ar9 st9 z9
attribute [go_sem] c10 b10 a10 us10 s10 ar10 st10 z10 c11 b11 a11 us11 s11 ar11 st11 z11 c12 b12 a12 us12 s12 ar12 k12 z12 c13 b13 a13 us13 s13 ar13 z13 f13_0 p13_0 f13_1 p13_1 pu13 c14 b14 a14 us14
attribute [go_sem] s14 ar14 z14 f14_0 p14_0 f14_1 p14_1 pu14 c15 b15 a15 us15 s15 ar15 z15 c16 b16 a16 us16 s16 ar16 z16 c17 b17 a17 us17 s17 ar17 z17 c18 b18 a18 us18 s18 ar18 z18 f18_0 p18_0 pu18 c19
attribute [go_sem] b19 a19 us19 s19 ar19 z19 f19_0 p19_0 pu19 c21 b21 a21 us21 s21 ar21 k21 z21 c22 b22 a22 us22 s22 ar22 z22 c23 b23 a23 us23 s23 ar23 z23 f23_0 p23_0 f23_1 p23_1 pu23 c24 b24 a24 us24
attribute [go_sem] s24 ar24 z24 f24_0 p24_0 f24_1 p24_1 pu24 c25 b25 a25 us25 s25 ar25 z25 c30 b30 a30 us30 s30 ar30 z30 f30_0 p30_0 f30_1 p30_1 pu30 c32 b32 a32 us32 s32 ar32 z32 c37 b37 a37 us37 s37 ar37
attribute [go_sem] z37 f37_0 p37_0 f37_1 p37_1 f37_2 p37_2 f37_3 p37_3 f37_4 p37_4 pu37 c38 b38 a38 us38 s38 ar38 z38 f38_0 p38_0 f38_1 p38_1 f38_2 p38_2 f38_3 p38_3 f38_4 p38_4 pu38 c42 b42 a42 us42 s42 ar42 z42 f42_0 p42_0 f42_1
attribute [go_sem] p42_1 f42_2 p42_2 f42_3 p42_3 f42_4 p42_4 pu42 c43 b43 a43 us43 s43 ar43 z43 f43_0 p43_0 f43_1 p43_1 f43_2 p43_2 f43_3 p43_3 f43_4 p43_4 pu43 c49 b49 a49 us49 s49 ar49 z49 c50 b50 a50 us50 s50 ar50 z50
attribute [go_sem] f50_0 p50_0 f50_1 p50_1 f50_2 p50_2 f50_3 p50_3 pu50 c51 b51 a51 us51 s51 ar51 z51 f51_0 p51_0 f51_1 p51_1 f51_2 p51_2 f51_3 p51_3 pu51 c55 b55 a55 us55 s55 ar55 z55 f55_0 p55_0 f55_1 p55_1 f55_2 p55_2 f55_3 p55_3
attribute [go_sem] pu55 c95 b95 a95 us95 s95 ar95 k95 z95 c98 b98 a98 us98 s98 ar98 k98 z98 c105 b105 a105 us105 s105 ar105 k105 z105 c107 b107 a107 us107 s107 ar107 k107 z107 c108 b108 a108 us108 s108 ar108 k108
attribute [go_sem] z108 c112 b112 a112 us112 s112 ar112 z112 c114 b114 a114 us114 s114 ar114 z114 c118 b118 a118 us118 s118 ar118 z118 f118_0 p118_0 f118_1 p118_1 f118_2 p118_2 f118_3 p118_3 pu118 c119 b119 a119 us119 s119 ar119 z119 f119_0 p119_0
attribute [go_sem] f119_1 p119_1 f119_2 p119_2 f119_3 p119_3 pu119 c120 b120 a120 us120 s120 ar120 z120 pu120 c121 b121 a121 us121 s121 ar121 z121 f121_0 p121_0 pu121 c122 b122 a122 us122 s122 ar122 z122 f122_0 p122_0 pu122 c124 b124 a124 us124 s124
attribute [go_sem] ar124 k124 z124 c125 b125 a125 us125 s125 ar125 k125 z125 c127 b127 a127 us127 s127 ar127 z127 c128 b128 a128 us128 s128 ar128 k128 z128 c129 b129 a129 us129 s129 ar129 k129 z129 c130 b130 a130 us130 s130 ar130
attribute [go_sem] z130 f130_0 p130_0 f130_1 p130_1 f130_2 p130_2 f130_3 p130_3 f130_4 p130_4 f130_5 p130_5 f130_6 p130_6 f130_7 f130_8 p130_8 f130_9 p130_9 f130_10 p130_10 pu130 c131 b131 a131 us131 s131 ar131 z131 f131_0 p131_0 f131_1 p131_1 f131_2 p131_2 f131_3 p131_3 f131_4 p131_4
attribute [go_sem] f131_5 p131_5 f131_6 p131_6 f131_7 f131_8 p131_8 f131_9 p131_9 f131_10 p131_10 pu131
end Abs.Y.Ty
