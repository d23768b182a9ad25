/- The facts on the types of this seat that the abstract walk asks for, by program. No condition. -/
import Derived.Test.YtbcohiabmdeanaaAbsLib
import Derived.Test.YtbcohiabmdeanaaAbsRow
import Derived.Test.YtbcohiabmdeanaaChecked
set_option linter.all false
namespace Abs.Y.Ty
open Go Go.Proofs Abs
theorem c2 : Try.prog.cellsOf 2 = 1 := by kernel_rfl
theorem b2 : Try.prog.bytesOf 2 = 8 := by kernel_rfl
theorem a2 : aggT Try.prog 2 = false := by kernel_rfl
theorem us2 : (Try.prog.underlying 2).isSome = true := by kernel_rfl
theorem s2 : elemSl Try.prog 2 = none := by kernel_rfl
theorem ar2 : elemAr Try.prog 2 = none := by kernel_rfl
theorem k2 : Try.prog.underlying 2 = some (.int .i64) := by kernel_rfl
theorem z2 : zeroD Try.prog 2 = some (.int .i64 0) := by kernel_rfl
theorem c3 : Try.prog.cellsOf 3 = 1 := by kernel_rfl
theorem b3 : Try.prog.bytesOf 3 = 8 := by kernel_rfl
theorem a3 : aggT Try.prog 3 = false := by kernel_rfl
theorem us3 : (Try.prog.underlying 3).isSome = true := by kernel_rfl
theorem s3 : elemSl Try.prog 3 = none := by kernel_rfl
theorem ar3 : elemAr Try.prog 3 = none := by kernel_rfl
theorem k3 : Try.prog.underlying 3 = some (.int .i64) := by kernel_rfl
theorem z3 : zeroD Try.prog 3 = some (.int .i64 0) := by kernel_rfl
theorem c4 : Try.prog.cellsOf 4 = 1 := by kernel_rfl
theorem b4 : Try.prog.bytesOf 4 = 1 := by kernel_rfl
theorem a4 : aggT Try.prog 4 = false := by kernel_rfl
theorem us4 : (Try.prog.underlying 4).isSome = true := by kernel_rfl
theorem s4 : elemSl Try.prog 4 = none := by kernel_rfl
theorem ar4 : elemAr Try.prog 4 = none := by kernel_rfl
theorem bo4 : isBoolT Try.prog 4 = true := by kernel_rfl
theorem z4 : zeroD Try.prog 4 = some (.bool false) := by kernel_rfl
theorem c5 : Try.prog.cellsOf 5 = 1 := by kernel_rfl
theorem b5 : Try.prog.bytesOf 5 = 1 := by kernel_rfl
theorem a5 : aggT Try.prog 5 = false := by kernel_rfl
theorem us5 : (Try.prog.underlying 5).isSome = true := by kernel_rfl
theorem s5 : elemSl Try.prog 5 = none := by kernel_rfl
theorem ar5 : elemAr Try.prog 5 = none := by kernel_rfl
theorem k5 : Try.prog.underlying 5 = some (.int .u8) := by kernel_rfl
theorem z5 : zeroD Try.prog 5 = some (.int .u8 0) := by kernel_rfl
theorem c6 : Try.prog.cellsOf 6 = 1 := by kernel_rfl
theorem b6 : Try.prog.bytesOf 6 = 1 := by kernel_rfl
theorem a6 : aggT Try.prog 6 = false := by kernel_rfl
theorem us6 : (Try.prog.underlying 6).isSome = true := by kernel_rfl
theorem s6 : elemSl Try.prog 6 = none := by kernel_rfl
theorem ar6 : elemAr Try.prog 6 = none := by kernel_rfl
theorem k6 : Try.prog.underlying 6 = some (.int .u8) := by kernel_rfl
theorem z6 : zeroD Try.prog 6 = some (.int .u8 0) := by kernel_rfl
theorem c7 : Try.prog.cellsOf 7 = 4 := by kernel_rfl
theorem b7 : Try.prog.bytesOf 7 = 24 := by kernel_rfl
theorem a7 : aggT Try.prog 7 = true := by kernel_rfl
theorem us7 : (Try.prog.underlying 7).isSome = true := by kernel_rfl
theorem s7 : elemSl Try.prog 7 = none := by kernel_rfl
theorem ar7 : elemAr Try.prog 7 = none := by kernel_rfl
theorem z7 : zeroD Try.prog 7 = some (.agg [(.int .i64 0), (.int .i64 0), (.bool false), (.int .u8 0)]) := by kernel_rfl
theorem f7_0 : fieldOf Try.prog 7 0 = some (0, 2) := by kernel_rfl
theorem p7_0 : places Try.prog 7 0 = some (0, 1) := by kernel_rfl
theorem f7_1 : fieldOf Try.prog 7 1 = some (1, 3) := by kernel_rfl
theorem p7_1 : places Try.prog 7 1 = some (1, 1) := by kernel_rfl
theorem f7_2 : fieldOf Try.prog 7 2 = some (2, 4) := by kernel_rfl
theorem p7_2 : places Try.prog 7 2 = some (2, 1) := by kernel_rfl
theorem f7_3 : fieldOf Try.prog 7 3 = some (3, 6) := by kernel_rfl
theorem p7_3 : places Try.prog 7 3 = some (3, 1) := by kernel_rfl
theorem pu7 : partsU Try.prog 7 = true := by kernel_rfl
theorem c8 : Try.prog.cellsOf 8 = 4 := by kernel_rfl
theorem b8 : Try.prog.bytesOf 8 = 24 := by kernel_rfl
theorem a8 : aggT Try.prog 8 = true := by kernel_rfl
theorem us8 : (Try.prog.underlying 8).isSome = true := by kernel_rfl
theorem s8 : elemSl Try.prog 8 = none := by kernel_rfl
theorem ar8 : elemAr Try.prog 8 = none := by kernel_rfl
theorem z8 : zeroD Try.prog 8 = some (.agg [(.int .i64 0), (.int .i64 0), (.bool false), (.int .u8 0)]) := by kernel_rfl
theorem f8_0 : fieldOf Try.prog 8 0 = some (0, 2) := by kernel_rfl
theorem p8_0 : places Try.prog 8 0 = some (0, 1) := by kernel_rfl
theorem f8_1 : fieldOf Try.prog 8 1 = some (1, 3) := by kernel_rfl
theorem p8_1 : places Try.prog 8 1 = some (1, 1) := by kernel_rfl
theorem f8_2 : fieldOf Try.prog 8 2 = some (2, 4) := by kernel_rfl
theorem p8_2 : places Try.prog 8 2 = some (2, 1) := by kernel_rfl
theorem f8_3 : fieldOf Try.prog 8 3 = some (3, 6) := by kernel_rfl
theorem p8_3 : places Try.prog 8 3 = some (3, 1) := by kernel_rfl
theorem pu8 : partsU Try.prog 8 = true := by kernel_rfl
theorem c9 : Try.prog.cellsOf 9 = 1 := by kernel_rfl
theorem b9 : Try.prog.bytesOf 9 = 16 := by kernel_rfl
theorem a9 : aggT Try.prog 9 = false := by kernel_rfl
theorem us9 : (Try.prog.underlying 9).isSome = true := by kernel_rfl
theorem s9 : elemSl Try.prog 9 = none := by kernel_rfl
theorem ar9 : elemAr Try.prog 9 = none := by kernel_rfl
theorem st9 : isStrT Try.prog 9 = true := by kernel_rfl
theorem z9 : zeroD Try.prog 9 = some (.str ByteArray.empty) := by kernel_rfl
theorem c10 : Try.prog.cellsOf 10 = 1 := by kernel_rfl
theorem b10 : Try.prog.bytesOf 10 = 16 := by kernel_rfl
theorem a10 : aggT Try.prog 10 = false := by kernel_rfl
theorem us10 : (Try.prog.underlying 10).isSome = true := by kernel_rfl
theorem s10 : elemSl Try.prog 10 = none := by kernel_rfl
theorem ar10 : elemAr Try.prog 10 = none := by kernel_rfl
theorem st10 : isStrT Try.prog 10 = true := by kernel_rfl
theorem z10 : zeroD Try.prog 10 = some (.str ByteArray.empty) := by kernel_rfl
theorem c11 : Try.prog.cellsOf 11 = 1 := by kernel_rfl
theorem b11 : Try.prog.bytesOf 11 = 16 := by kernel_rfl
theorem a11 : aggT Try.prog 11 = false := by kernel_rfl
theorem us11 : (Try.prog.underlying 11).isSome = true := by kernel_rfl
theorem s11 : elemSl Try.prog 11 = none := by kernel_rfl
theorem ar11 : elemAr Try.prog 11 = none := by kernel_rfl
theorem st11 : isStrT Try.prog 11 = true := by kernel_rfl
theorem z11 : zeroD Try.prog 11 = some (.str ByteArray.empty) := by kernel_rfl
theorem c12 : Try.prog.cellsOf 12 = 1 := by kernel_rfl
theorem b12 : Try.prog.bytesOf 12 = 8 := by kernel_rfl
theorem a12 : aggT Try.prog 12 = false := by kernel_rfl
theorem us12 : (Try.prog.underlying 12).isSome = true := by kernel_rfl
theorem s12 : elemSl Try.prog 12 = none := by kernel_rfl
theorem ar12 : elemAr Try.prog 12 = none := by kernel_rfl
theorem k12 : Try.prog.underlying 12 = some (.int .u64) := by kernel_rfl
theorem z12 : zeroD Try.prog 12 = some (.int .u64 0) := by kernel_rfl
theorem c13 : Try.prog.cellsOf 13 = 2 := by kernel_rfl
theorem b13 : Try.prog.bytesOf 13 = 24 := by kernel_rfl
theorem a13 : aggT Try.prog 13 = true := by kernel_rfl
theorem us13 : (Try.prog.underlying 13).isSome = true := by kernel_rfl
theorem s13 : elemSl Try.prog 13 = none := by kernel_rfl
theorem ar13 : elemAr Try.prog 13 = none := by kernel_rfl
theorem z13 : zeroD Try.prog 13 = some (.agg [(.str ByteArray.empty), (.int .u64 0)]) := by kernel_rfl
theorem f13_0 : fieldOf Try.prog 13 0 = some (0, 9) := by kernel_rfl
theorem p13_0 : places Try.prog 13 0 = some (0, 1) := by kernel_rfl
theorem f13_1 : fieldOf Try.prog 13 1 = some (1, 12) := by kernel_rfl
theorem p13_1 : places Try.prog 13 1 = some (1, 1) := by kernel_rfl
theorem pu13 : partsU Try.prog 13 = true := by kernel_rfl
theorem c14 : Try.prog.cellsOf 14 = 2 := by kernel_rfl
theorem b14 : Try.prog.bytesOf 14 = 24 := by kernel_rfl
theorem a14 : aggT Try.prog 14 = true := by kernel_rfl
theorem us14 : (Try.prog.underlying 14).isSome = true := by kernel_rfl
theorem s14 : elemSl Try.prog 14 = none := by kernel_rfl
theorem ar14 : elemAr Try.prog 14 = none := by kernel_rfl
theorem z14 : zeroD Try.prog 14 = some (.agg [(.str ByteArray.empty), (.int .u64 0)]) := by kernel_rfl
theorem f14_0 : fieldOf Try.prog 14 0 = some (0, 9) := by kernel_rfl
theorem p14_0 : places Try.prog 14 0 = some (0, 1) := by kernel_rfl
theorem f14_1 : fieldOf Try.prog 14 1 = some (1, 12) := by kernel_rfl
theorem p14_1 : places Try.prog 14 1 = some (1, 1) := by kernel_rfl
theorem pu14 : partsU Try.prog 14 = true := by kernel_rfl
theorem c15 : Try.prog.cellsOf 15 = 1 := by kernel_rfl
theorem b15 : Try.prog.bytesOf 15 = 8 := by kernel_rfl
theorem a15 : aggT Try.prog 15 = false := by kernel_rfl
theorem us15 : (Try.prog.underlying 15).isSome = true := by kernel_rfl
theorem s15 : elemSl Try.prog 15 = none := by kernel_rfl
theorem ar15 : elemAr Try.prog 15 = none := by kernel_rfl
theorem z15 : zeroD Try.prog 15 = some .nilptr := by kernel_rfl
theorem c16 : Try.prog.cellsOf 16 = 1 := by kernel_rfl
theorem b16 : Try.prog.bytesOf 16 = 8 := by kernel_rfl
theorem a16 : aggT Try.prog 16 = false := by kernel_rfl
theorem us16 : (Try.prog.underlying 16).isSome = true := by kernel_rfl
theorem s16 : elemSl Try.prog 16 = none := by kernel_rfl
theorem ar16 : elemAr Try.prog 16 = none := by kernel_rfl
theorem z16 : zeroD Try.prog 16 = some .nilptr := by kernel_rfl
theorem c17 : Try.prog.cellsOf 17 = 1 := by kernel_rfl
theorem b17 : Try.prog.bytesOf 17 = 8 := by kernel_rfl
theorem a17 : aggT Try.prog 17 = false := by kernel_rfl
theorem us17 : (Try.prog.underlying 17).isSome = true := by kernel_rfl
theorem s17 : elemSl Try.prog 17 = none := by kernel_rfl
theorem ar17 : elemAr Try.prog 17 = none := by kernel_rfl
theorem z17 : zeroD Try.prog 17 = some .nilptr := by kernel_rfl
theorem c18 : Try.prog.cellsOf 18 = 1 := by kernel_rfl
theorem b18 : Try.prog.bytesOf 18 = 8 := by kernel_rfl
theorem a18 : aggT Try.prog 18 = true := by kernel_rfl
theorem us18 : (Try.prog.underlying 18).isSome = true := by kernel_rfl
theorem s18 : elemSl Try.prog 18 = none := by kernel_rfl
theorem ar18 : elemAr Try.prog 18 = none := by kernel_rfl
theorem z18 : zeroD Try.prog 18 = some (.agg [.nilptr]) := by kernel_rfl
theorem f18_0 : fieldOf Try.prog 18 0 = some (0, 17) := by kernel_rfl
theorem p18_0 : places Try.prog 18 0 = some (0, 1) := by kernel_rfl
theorem pu18 : partsU Try.prog 18 = true := by kernel_rfl
theorem c19 : Try.prog.cellsOf 19 = 1 := by kernel_rfl
theorem b19 : Try.prog.bytesOf 19 = 8 := by kernel_rfl
theorem a19 : aggT Try.prog 19 = true := by kernel_rfl
theorem us19 : (Try.prog.underlying 19).isSome = true := by kernel_rfl
theorem s19 : elemSl Try.prog 19 = none := by kernel_rfl
theorem ar19 : elemAr Try.prog 19 = none := by kernel_rfl
theorem z19 : zeroD Try.prog 19 = some (.agg [.nilptr]) := by kernel_rfl
theorem f19_0 : fieldOf Try.prog 19 0 = some (0, 17) := by kernel_rfl
theorem p19_0 : places Try.prog 19 0 = some (0, 1) := by kernel_rfl
theorem pu19 : partsU Try.prog 19 = true := by kernel_rfl
theorem c21 : Try.prog.cellsOf 21 = 1 := by kernel_rfl
theorem b21 : Try.prog.bytesOf 21 = 4 := by kernel_rfl
theorem a21 : aggT Try.prog 21 = false := by kernel_rfl
theorem us21 : (Try.prog.underlying 21).isSome = true := by kernel_rfl
theorem s21 : elemSl Try.prog 21 = none := by kernel_rfl
theorem ar21 : elemAr Try.prog 21 = none := by kernel_rfl
theorem k21 : Try.prog.underlying 21 = some (.int .i32) := by kernel_rfl
theorem z21 : zeroD Try.prog 21 = some (.int .i32 0) := by kernel_rfl
theorem c22 : Try.prog.cellsOf 22 = 1 := by kernel_rfl
theorem b22 : Try.prog.bytesOf 22 = 24 := by kernel_rfl
theorem a22 : aggT Try.prog 22 = false := by kernel_rfl
theorem us22 : (Try.prog.underlying 22).isSome = true := by kernel_rfl
theorem s22 : elemSl Try.prog 22 = some 53 := by kernel_rfl
theorem ar22 : elemAr Try.prog 22 = none := by kernel_rfl
theorem z22 : zeroD Try.prog 22 = some (.slice []) := by kernel_rfl
theorem c23 : Try.prog.cellsOf 23 = 2 := by kernel_rfl
theorem b23 : Try.prog.bytesOf 23 = 32 := by kernel_rfl
theorem a23 : aggT Try.prog 23 = true := by kernel_rfl
theorem us23 : (Try.prog.underlying 23).isSome = true := by kernel_rfl
theorem s23 : elemSl Try.prog 23 = none := by kernel_rfl
theorem ar23 : elemAr Try.prog 23 = none := by kernel_rfl
theorem z23 : zeroD Try.prog 23 = some (.agg [(.int .i64 0), (.slice [])]) := by kernel_rfl
theorem f23_0 : fieldOf Try.prog 23 0 = some (0, 3) := by kernel_rfl
theorem p23_0 : places Try.prog 23 0 = some (0, 1) := by kernel_rfl
theorem f23_1 : fieldOf Try.prog 23 1 = some (1, 22) := by kernel_rfl
theorem p23_1 : places Try.prog 23 1 = some (1, 1) := by kernel_rfl
theorem pu23 : partsU Try.prog 23 = true := by kernel_rfl
theorem c24 : Try.prog.cellsOf 24 = 2 := by kernel_rfl
theorem b24 : Try.prog.bytesOf 24 = 32 := by kernel_rfl
theorem a24 : aggT Try.prog 24 = true := by kernel_rfl
theorem us24 : (Try.prog.underlying 24).isSome = true := by kernel_rfl
theorem s24 : elemSl Try.prog 24 = none := by kernel_rfl
theorem ar24 : elemAr Try.prog 24 = none := by kernel_rfl
theorem z24 : zeroD Try.prog 24 = some (.agg [(.int .i64 0), (.slice [])]) := by kernel_rfl
theorem f24_0 : fieldOf Try.prog 24 0 = some (0, 3) := by kernel_rfl
theorem p24_0 : places Try.prog 24 0 = some (0, 1) := by kernel_rfl
theorem f24_1 : fieldOf Try.prog 24 1 = some (1, 22) := by kernel_rfl
theorem p24_1 : places Try.prog 24 1 = some (1, 1) := by kernel_rfl
theorem pu24 : partsU Try.prog 24 = true := by kernel_rfl
theorem c25 : Try.prog.cellsOf 25 = 1 := by kernel_rfl
theorem b25 : Try.prog.bytesOf 25 = 24 := by kernel_rfl
theorem a25 : aggT Try.prog 25 = false := by kernel_rfl
theorem us25 : (Try.prog.underlying 25).isSome = true := by kernel_rfl
theorem s25 : elemSl Try.prog 25 = some 55 := by kernel_rfl
theorem ar25 : elemAr Try.prog 25 = none := by kernel_rfl
theorem z25 : zeroD Try.prog 25 = some (.slice []) := by kernel_rfl
theorem c30 : Try.prog.cellsOf 30 = 2 := by kernel_rfl
theorem b30 : Try.prog.bytesOf 30 = 32 := by kernel_rfl
theorem a30 : aggT Try.prog 30 = true := by kernel_rfl
theorem us30 : (Try.prog.underlying 30).isSome = true := by kernel_rfl
theorem s30 : elemSl Try.prog 30 = none := by kernel_rfl
theorem ar30 : elemAr Try.prog 30 = none := by kernel_rfl
theorem z30 : zeroD Try.prog 30 = some (.agg [(.int .i64 0), (.slice [])]) := by kernel_rfl
theorem f30_0 : fieldOf Try.prog 30 0 = some (0, 3) := by kernel_rfl
theorem p30_0 : places Try.prog 30 0 = some (0, 1) := by kernel_rfl
theorem f30_1 : fieldOf Try.prog 30 1 = some (1, 22) := by kernel_rfl
theorem p30_1 : places Try.prog 30 1 = some (1, 1) := by kernel_rfl
theorem pu30 : partsU Try.prog 30 = true := by kernel_rfl
theorem c32 : Try.prog.cellsOf 32 = 1 := by kernel_rfl
theorem b32 : Try.prog.bytesOf 32 = 24 := by kernel_rfl
theorem a32 : aggT Try.prog 32 = false := by kernel_rfl
theorem us32 : (Try.prog.underlying 32).isSome = true := by kernel_rfl
theorem s32 : elemSl Try.prog 32 = some 59 := by kernel_rfl
theorem ar32 : elemAr Try.prog 32 = none := by kernel_rfl
theorem z32 : zeroD Try.prog 32 = some (.slice []) := by kernel_rfl
theorem c42 : Try.prog.cellsOf 42 = 6 := by kernel_rfl
theorem b42 : Try.prog.bytesOf 42 = 80 := by kernel_rfl
theorem a42 : aggT Try.prog 42 = true := by kernel_rfl
theorem us42 : (Try.prog.underlying 42).isSome = true := by kernel_rfl
theorem s42 : elemSl Try.prog 42 = none := by kernel_rfl
theorem ar42 : elemAr Try.prog 42 = none := by kernel_rfl
theorem z42 : zeroD Try.prog 42 = some (.agg [(.int .i64 0), (.int .i64 0), (.slice []), (.slice []), (.int .i64 0), (.int .i64 0)]) := by kernel_rfl
theorem f42_0 : fieldOf Try.prog 42 0 = some (0, 3) := by kernel_rfl
theorem p42_0 : places Try.prog 42 0 = some (0, 1) := by kernel_rfl
theorem f42_1 : fieldOf Try.prog 42 1 = some (1, 24) := by kernel_rfl
theorem p42_1 : places Try.prog 42 1 = some (1, 2) := by kernel_rfl
theorem f42_2 : fieldOf Try.prog 42 2 = some (3, 25) := by kernel_rfl
theorem p42_2 : places Try.prog 42 2 = some (3, 1) := by kernel_rfl
theorem f42_3 : fieldOf Try.prog 42 3 = some (4, 3) := by kernel_rfl
theorem p42_3 : places Try.prog 42 3 = some (4, 1) := by kernel_rfl
theorem f42_4 : fieldOf Try.prog 42 4 = some (5, 3) := by kernel_rfl
theorem p42_4 : places Try.prog 42 4 = some (5, 1) := by kernel_rfl
theorem pu42 : partsU Try.prog 42 = true := by kernel_rfl
theorem c43 : Try.prog.cellsOf 43 = 6 := by kernel_rfl
theorem b43 : Try.prog.bytesOf 43 = 80 := by kernel_rfl
theorem a43 : aggT Try.prog 43 = true := by kernel_rfl
theorem us43 : (Try.prog.underlying 43).isSome = true := by kernel_rfl
theorem s43 : elemSl Try.prog 43 = none := by kernel_rfl
theorem ar43 : elemAr Try.prog 43 = none := by kernel_rfl
theorem z43 : zeroD Try.prog 43 = some (.agg [(.int .i64 0), (.int .i64 0), (.slice []), (.slice []), (.int .i64 0), (.int .i64 0)]) := by kernel_rfl
theorem f43_0 : fieldOf Try.prog 43 0 = some (0, 3) := by kernel_rfl
theorem p43_0 : places Try.prog 43 0 = some (0, 1) := by kernel_rfl
theorem f43_1 : fieldOf Try.prog 43 1 = some (1, 24) := by kernel_rfl
theorem p43_1 : places Try.prog 43 1 = some (1, 2) := by kernel_rfl
theorem f43_2 : fieldOf Try.prog 43 2 = some (3, 25) := by kernel_rfl
theorem p43_2 : places Try.prog 43 2 = some (3, 1) := by kernel_rfl
theorem f43_3 : fieldOf Try.prog 43 3 = some (4, 3) := by kernel_rfl
theorem p43_3 : places Try.prog 43 3 = some (4, 1) := by kernel_rfl
theorem f43_4 : fieldOf Try.prog 43 4 = some (5, 3) := by kernel_rfl
theorem p43_4 : places Try.prog 43 4 = some (5, 1) := by kernel_rfl
theorem pu43 : partsU Try.prog 43 = true := by kernel_rfl
theorem c46 : Try.prog.cellsOf 46 = 6 := by kernel_rfl
theorem b46 : Try.prog.bytesOf 46 = 80 := by kernel_rfl
theorem a46 : aggT Try.prog 46 = true := by kernel_rfl
theorem us46 : (Try.prog.underlying 46).isSome = true := by kernel_rfl
theorem s46 : elemSl Try.prog 46 = none := by kernel_rfl
theorem ar46 : elemAr Try.prog 46 = none := by kernel_rfl
theorem z46 : zeroD Try.prog 46 = some (.agg [(.int .i64 0), (.int .i64 0), (.slice []), (.slice []), (.int .i64 0), (.int .i64 0)]) := by kernel_rfl
theorem f46_0 : fieldOf Try.prog 46 0 = some (0, 3) := by kernel_rfl
theorem p46_0 : places Try.prog 46 0 = some (0, 1) := by kernel_rfl
theorem f46_1 : fieldOf Try.prog 46 1 = some (1, 30) := by kernel_rfl
theorem p46_1 : places Try.prog 46 1 = some (1, 2) := by kernel_rfl
theorem f46_2 : fieldOf Try.prog 46 2 = some (3, 32) := by kernel_rfl
theorem p46_2 : places Try.prog 46 2 = some (3, 1) := by kernel_rfl
theorem f46_3 : fieldOf Try.prog 46 3 = some (4, 3) := by kernel_rfl
theorem p46_3 : places Try.prog 46 3 = some (4, 1) := by kernel_rfl
theorem f46_4 : fieldOf Try.prog 46 4 = some (5, 3) := by kernel_rfl
theorem p46_4 : places Try.prog 46 4 = some (5, 1) := by kernel_rfl
theorem pu46 : partsU Try.prog 46 = true := by kernel_rfl
theorem c47 : Try.prog.cellsOf 47 = 6 := by kernel_rfl
theorem b47 : Try.prog.bytesOf 47 = 80 := by kernel_rfl
theorem a47 : aggT Try.prog 47 = true := by kernel_rfl
theorem us47 : (Try.prog.underlying 47).isSome = true := by kernel_rfl
theorem s47 : elemSl Try.prog 47 = none := by kernel_rfl
theorem ar47 : elemAr Try.prog 47 = none := by kernel_rfl
theorem z47 : zeroD Try.prog 47 = some (.agg [(.int .i64 0), (.int .i64 0), (.slice []), (.slice []), (.int .i64 0), (.int .i64 0)]) := by kernel_rfl
theorem f47_0 : fieldOf Try.prog 47 0 = some (0, 3) := by kernel_rfl
theorem p47_0 : places Try.prog 47 0 = some (0, 1) := by kernel_rfl
theorem f47_1 : fieldOf Try.prog 47 1 = some (1, 30) := by kernel_rfl
theorem p47_1 : places Try.prog 47 1 = some (1, 2) := by kernel_rfl
theorem f47_2 : fieldOf Try.prog 47 2 = some (3, 32) := by kernel_rfl
theorem p47_2 : places Try.prog 47 2 = some (3, 1) := by kernel_rfl
theorem f47_3 : fieldOf Try.prog 47 3 = some (4, 3) := by kernel_rfl
theorem p47_3 : places Try.prog 47 3 = some (4, 1) := by kernel_rfl
theorem f47_4 : fieldOf Try.prog 47 4 = some (5, 3) := by kernel_rfl
theorem p47_4 : places Try.prog 47 4 = some (5, 1) := by kernel_rfl
theorem pu47 : partsU Try.prog 47 = true := by kernel_rfl
theorem c53 : Try.prog.cellsOf 53 = 1 := by kernel_rfl
theorem b53 : Try.prog.bytesOf 53 = 24 := by kernel_rfl
theorem a53 : aggT Try.prog 53 = false := by kernel_rfl
theorem us53 : (Try.prog.underlying 53).isSome = true := by kernel_rfl
theorem s53 : elemSl Try.prog 53 = some 3 := by kernel_rfl
theorem ar53 : elemAr Try.prog 53 = none := by kernel_rfl
theorem z53 : zeroD Try.prog 53 = some (.slice []) := by kernel_rfl
theorem c54 : Try.prog.cellsOf 54 = 4 := by kernel_rfl
theorem b54 : Try.prog.bytesOf 54 = 48 := by kernel_rfl
theorem a54 : aggT Try.prog 54 = true := by kernel_rfl
theorem us54 : (Try.prog.underlying 54).isSome = true := by kernel_rfl
theorem s54 : elemSl Try.prog 54 = none := by kernel_rfl
theorem ar54 : elemAr Try.prog 54 = none := by kernel_rfl
theorem z54 : zeroD Try.prog 54 = some (.agg [(.slice []), (.int .i64 0), (.int .i64 0), (.int .i64 0)]) := by kernel_rfl
theorem f54_0 : fieldOf Try.prog 54 0 = some (0, 53) := by kernel_rfl
theorem p54_0 : places Try.prog 54 0 = some (0, 1) := by kernel_rfl
theorem f54_1 : fieldOf Try.prog 54 1 = some (1, 3) := by kernel_rfl
theorem p54_1 : places Try.prog 54 1 = some (1, 1) := by kernel_rfl
theorem f54_2 : fieldOf Try.prog 54 2 = some (2, 3) := by kernel_rfl
theorem p54_2 : places Try.prog 54 2 = some (2, 1) := by kernel_rfl
theorem f54_3 : fieldOf Try.prog 54 3 = some (3, 3) := by kernel_rfl
theorem p54_3 : places Try.prog 54 3 = some (3, 1) := by kernel_rfl
theorem pu54 : partsU Try.prog 54 = true := by kernel_rfl
theorem c55 : Try.prog.cellsOf 55 = 4 := by kernel_rfl
theorem b55 : Try.prog.bytesOf 55 = 48 := by kernel_rfl
theorem a55 : aggT Try.prog 55 = true := by kernel_rfl
theorem us55 : (Try.prog.underlying 55).isSome = true := by kernel_rfl
theorem s55 : elemSl Try.prog 55 = none := by kernel_rfl
theorem ar55 : elemAr Try.prog 55 = none := by kernel_rfl
theorem z55 : zeroD Try.prog 55 = some (.agg [(.slice []), (.int .i64 0), (.int .i64 0), (.int .i64 0)]) := by kernel_rfl
theorem f55_0 : fieldOf Try.prog 55 0 = some (0, 53) := by kernel_rfl
theorem p55_0 : places Try.prog 55 0 = some (0, 1) := by kernel_rfl
theorem f55_1 : fieldOf Try.prog 55 1 = some (1, 3) := by kernel_rfl
theorem p55_1 : places Try.prog 55 1 = some (1, 1) := by kernel_rfl
theorem f55_2 : fieldOf Try.prog 55 2 = some (2, 3) := by kernel_rfl
theorem p55_2 : places Try.prog 55 2 = some (2, 1) := by kernel_rfl
theorem f55_3 : fieldOf Try.prog 55 3 = some (3, 3) := by kernel_rfl
theorem p55_3 : places Try.prog 55 3 = some (3, 1) := by kernel_rfl
theorem pu55 : partsU Try.prog 55 = true := by kernel_rfl
theorem c59 : Try.prog.cellsOf 59 = 4 := by kernel_rfl
theorem b59 : Try.prog.bytesOf 59 = 48 := by kernel_rfl
theorem a59 : aggT Try.prog 59 = true := by kernel_rfl
theorem us59 : (Try.prog.underlying 59).isSome = true := by kernel_rfl
theorem s59 : elemSl Try.prog 59 = none := by kernel_rfl
theorem ar59 : elemAr Try.prog 59 = none := by kernel_rfl
theorem z59 : zeroD Try.prog 59 = some (.agg [(.slice []), (.int .i64 0), (.int .i64 0), (.int .i64 0)]) := by kernel_rfl
theorem f59_0 : fieldOf Try.prog 59 0 = some (0, 53) := by kernel_rfl
theorem p59_0 : places Try.prog 59 0 = some (0, 1) := by kernel_rfl
theorem f59_1 : fieldOf Try.prog 59 1 = some (1, 3) := by kernel_rfl
theorem p59_1 : places Try.prog 59 1 = some (1, 1) := by kernel_rfl
theorem f59_2 : fieldOf Try.prog 59 2 = some (2, 3) := by kernel_rfl
theorem p59_2 : places Try.prog 59 2 = some (2, 1) := by kernel_rfl
theorem f59_3 : fieldOf Try.prog 59 3 = some (3, 3) := by kernel_rfl
theorem p59_3 : places Try.prog 59 3 = some (3, 1) := by kernel_rfl
theorem pu59 : partsU Try.prog 59 = true := by kernel_rfl
theorem c100 : Try.prog.cellsOf 100 = 1 := by kernel_rfl
theorem b100 : Try.prog.bytesOf 100 = 8 := by kernel_rfl
theorem a100 : aggT Try.prog 100 = false := by kernel_rfl
theorem us100 : (Try.prog.underlying 100).isSome = true := by kernel_rfl
theorem s100 : elemSl Try.prog 100 = none := by kernel_rfl
theorem ar100 : elemAr Try.prog 100 = none := by kernel_rfl
theorem k100 : Try.prog.underlying 100 = some (.int .u64) := by kernel_rfl
theorem z100 : zeroD Try.prog 100 = some (.int .u64 0) := by kernel_rfl
theorem c103 : Try.prog.cellsOf 103 = 1 := by kernel_rfl
theorem b103 : Try.prog.bytesOf 103 = 8 := by kernel_rfl
theorem a103 : aggT Try.prog 103 = false := by kernel_rfl
theorem us103 : (Try.prog.underlying 103).isSome = true := by kernel_rfl
theorem s103 : elemSl Try.prog 103 = none := by kernel_rfl
theorem ar103 : elemAr Try.prog 103 = none := by kernel_rfl
theorem k103 : Try.prog.underlying 103 = some (.int .i64) := by kernel_rfl
theorem z103 : zeroD Try.prog 103 = some (.int .i64 0) := by kernel_rfl
theorem c110 : Try.prog.cellsOf 110 = 1 := by kernel_rfl
theorem b110 : Try.prog.bytesOf 110 = 4 := by kernel_rfl
theorem a110 : aggT Try.prog 110 = false := by kernel_rfl
theorem us110 : (Try.prog.underlying 110).isSome = true := by kernel_rfl
theorem s110 : elemSl Try.prog 110 = none := by kernel_rfl
theorem ar110 : elemAr Try.prog 110 = none := by kernel_rfl
theorem k110 : Try.prog.underlying 110 = some (.int .u32) := by kernel_rfl
theorem z110 : zeroD Try.prog 110 = some (.int .u32 0) := by kernel_rfl
theorem c112 : Try.prog.cellsOf 112 = 1 := by kernel_rfl
theorem b112 : Try.prog.bytesOf 112 = 8 := by kernel_rfl
theorem a112 : aggT Try.prog 112 = false := by kernel_rfl
theorem us112 : (Try.prog.underlying 112).isSome = true := by kernel_rfl
theorem s112 : elemSl Try.prog 112 = none := by kernel_rfl
theorem ar112 : elemAr Try.prog 112 = none := by kernel_rfl
theorem k112 : Try.prog.underlying 112 = some (.int .u64) := by kernel_rfl
theorem z112 : zeroD Try.prog 112 = some (.int .u64 0) := by kernel_rfl
theorem c113 : Try.prog.cellsOf 113 = 1 := by kernel_rfl
theorem b113 : Try.prog.bytesOf 113 = 8 := by kernel_rfl
theorem a113 : aggT Try.prog 113 = false := by kernel_rfl
theorem us113 : (Try.prog.underlying 113).isSome = true := by kernel_rfl
theorem s113 : elemSl Try.prog 113 = none := by kernel_rfl
theorem ar113 : elemAr Try.prog 113 = none := by kernel_rfl
theorem k113 : Try.prog.underlying 113 = some (.int .u64) := by kernel_rfl
theorem z113 : zeroD Try.prog 113 = some (.int .u64 0) := by kernel_rfl
theorem c117 : Try.prog.cellsOf 117 = 1 := by kernel_rfl
theorem b117 : Try.prog.bytesOf 117 = 8 := by kernel_rfl
theorem a117 : aggT Try.prog 117 = false := by kernel_rfl
theorem us117 : (Try.prog.underlying 117).isSome = true := by kernel_rfl
theorem s117 : elemSl Try.prog 117 = none := by kernel_rfl
theorem ar117 : elemAr Try.prog 117 = none := by kernel_rfl
theorem z117 : zeroD Try.prog 117 = some .nilptr := by kernel_rfl
theorem c119 : Try.prog.cellsOf 119 = 1 := by kernel_rfl
theorem b119 : Try.prog.bytesOf 119 = 8 := by kernel_rfl
theorem a119 : aggT Try.prog 119 = false := by kernel_rfl
theorem us119 : (Try.prog.underlying 119).isSome = true := by kernel_rfl
theorem s119 : elemSl Try.prog 119 = none := by kernel_rfl
theorem ar119 : elemAr Try.prog 119 = none := by kernel_rfl
theorem z119 : zeroD Try.prog 119 = some .nilptr := by kernel_rfl
theorem c123 : Try.prog.cellsOf 123 = 4 := by kernel_rfl
theorem b123 : Try.prog.bytesOf 123 = 40 := by kernel_rfl
theorem a123 : aggT Try.prog 123 = true := by kernel_rfl
theorem us123 : (Try.prog.underlying 123).isSome = true := by kernel_rfl
theorem s123 : elemSl Try.prog 123 = none := by kernel_rfl
theorem ar123 : elemAr Try.prog 123 = none := by kernel_rfl
theorem z123 : zeroD Try.prog 123 = some (.agg [.nilptr, .nilptr, .nilptr, (.str ByteArray.empty)]) := by kernel_rfl
theorem f123_0 : fieldOf Try.prog 123 0 = some (0, 17) := by kernel_rfl
theorem p123_0 : places Try.prog 123 0 = some (0, 1) := by kernel_rfl
theorem f123_1 : fieldOf Try.prog 123 1 = some (1, 17) := by kernel_rfl
theorem p123_1 : places Try.prog 123 1 = some (1, 1) := by kernel_rfl
theorem f123_2 : fieldOf Try.prog 123 2 = some (2, 17) := by kernel_rfl
theorem p123_2 : places Try.prog 123 2 = some (2, 1) := by kernel_rfl
theorem f123_3 : fieldOf Try.prog 123 3 = some (3, 9) := by kernel_rfl
theorem p123_3 : places Try.prog 123 3 = some (3, 1) := by kernel_rfl
theorem pu123 : partsU Try.prog 123 = true := by kernel_rfl
theorem c124 : Try.prog.cellsOf 124 = 4 := by kernel_rfl
theorem b124 : Try.prog.bytesOf 124 = 40 := by kernel_rfl
theorem a124 : aggT Try.prog 124 = true := by kernel_rfl
theorem us124 : (Try.prog.underlying 124).isSome = true := by kernel_rfl
theorem s124 : elemSl Try.prog 124 = none := by kernel_rfl
theorem ar124 : elemAr Try.prog 124 = none := by kernel_rfl
theorem z124 : zeroD Try.prog 124 = some (.agg [.nilptr, .nilptr, .nilptr, (.str ByteArray.empty)]) := by kernel_rfl
theorem f124_0 : fieldOf Try.prog 124 0 = some (0, 17) := by kernel_rfl
theorem p124_0 : places Try.prog 124 0 = some (0, 1) := by kernel_rfl
theorem f124_1 : fieldOf Try.prog 124 1 = some (1, 17) := by kernel_rfl
theorem p124_1 : places Try.prog 124 1 = some (1, 1) := by kernel_rfl
theorem f124_2 : fieldOf Try.prog 124 2 = some (2, 17) := by kernel_rfl
theorem p124_2 : places Try.prog 124 2 = some (2, 1) := by kernel_rfl
theorem f124_3 : fieldOf Try.prog 124 3 = some (3, 9) := by kernel_rfl
theorem p124_3 : places Try.prog 124 3 = some (3, 1) := by kernel_rfl
theorem pu124 : partsU Try.prog 124 = true := by kernel_rfl
theorem c125 : Try.prog.cellsOf 125 = 0 := by kernel_rfl
theorem b125 : Try.prog.bytesOf 125 = 0 := by kernel_rfl
theorem a125 : aggT Try.prog 125 = true := by kernel_rfl
theorem us125 : (Try.prog.underlying 125).isSome = true := by kernel_rfl
theorem s125 : elemSl Try.prog 125 = none := by kernel_rfl
theorem ar125 : elemAr Try.prog 125 = some (0, 16) := by kernel_rfl
theorem z125 : zeroD Try.prog 125 = some (.agg []) := by kernel_rfl
theorem pu125 : partsU Try.prog 125 = true := by kernel_rfl
theorem c126 : Try.prog.cellsOf 126 = 0 := by kernel_rfl
theorem b126 : Try.prog.bytesOf 126 = 0 := by kernel_rfl
theorem a126 : aggT Try.prog 126 = true := by kernel_rfl
theorem us126 : (Try.prog.underlying 126).isSome = true := by kernel_rfl
theorem s126 : elemSl Try.prog 126 = none := by kernel_rfl
theorem ar126 : elemAr Try.prog 126 = none := by kernel_rfl
theorem z126 : zeroD Try.prog 126 = some (.agg []) := by kernel_rfl
theorem f126_0 : fieldOf Try.prog 126 0 = some (0, 125) := by kernel_rfl
theorem p126_0 : places Try.prog 126 0 = some (0, 0) := by kernel_rfl
theorem pu126 : partsU Try.prog 126 = true := by kernel_rfl
theorem c127 : Try.prog.cellsOf 127 = 0 := by kernel_rfl
theorem b127 : Try.prog.bytesOf 127 = 0 := by kernel_rfl
theorem a127 : aggT Try.prog 127 = true := by kernel_rfl
theorem us127 : (Try.prog.underlying 127).isSome = true := by kernel_rfl
theorem s127 : elemSl Try.prog 127 = none := by kernel_rfl
theorem ar127 : elemAr Try.prog 127 = none := by kernel_rfl
theorem z127 : zeroD Try.prog 127 = some (.agg []) := by kernel_rfl
theorem f127_0 : fieldOf Try.prog 127 0 = some (0, 125) := by kernel_rfl
theorem p127_0 : places Try.prog 127 0 = some (0, 0) := by kernel_rfl
theorem pu127 : partsU Try.prog 127 = true := by kernel_rfl
theorem c129 : Try.prog.cellsOf 129 = 1 := by kernel_rfl
theorem b129 : Try.prog.bytesOf 129 = 1 := by kernel_rfl
theorem a129 : aggT Try.prog 129 = false := by kernel_rfl
theorem us129 : (Try.prog.underlying 129).isSome = true := by kernel_rfl
theorem s129 : elemSl Try.prog 129 = none := by kernel_rfl
theorem ar129 : elemAr Try.prog 129 = none := by kernel_rfl
theorem k129 : Try.prog.underlying 129 = some (.int .u8) := by kernel_rfl
theorem z129 : zeroD Try.prog 129 = some (.int .u8 0) := by kernel_rfl
theorem c130 : Try.prog.cellsOf 130 = 1 := by kernel_rfl
theorem b130 : Try.prog.bytesOf 130 = 1 := by kernel_rfl
theorem a130 : aggT Try.prog 130 = false := by kernel_rfl
theorem us130 : (Try.prog.underlying 130).isSome = true := by kernel_rfl
theorem s130 : elemSl Try.prog 130 = none := by kernel_rfl
theorem ar130 : elemAr Try.prog 130 = none := by kernel_rfl
theorem k130 : Try.prog.underlying 130 = some (.int .u8) := by kernel_rfl
theorem z130 : zeroD Try.prog 130 = some (.int .u8 0) := by kernel_rfl
theorem c132 : Try.prog.cellsOf 132 = 1 := by kernel_rfl
theorem b132 : Try.prog.bytesOf 132 = 8 := by kernel_rfl
theorem a132 : aggT Try.prog 132 = false := by kernel_rfl
theorem us132 : (Try.prog.underlying 132).isSome = true := by kernel_rfl
theorem s132 : elemSl Try.prog 132 = none := by kernel_rfl
theorem ar132 : elemAr Try.prog 132 = none := by kernel_rfl
theorem z132 : zeroD Try.prog 132 = some .nilptr := by kernel_rfl
theorem c133 : Try.prog.cellsOf 133 = 1 := by kernel_rfl
theorem b133 : Try.prog.bytesOf 133 = 4 := by kernel_rfl
theorem a133 : aggT Try.prog 133 = false := by kernel_rfl
theorem us133 : (Try.prog.underlying 133).isSome = true := by kernel_rfl
theorem s133 : elemSl Try.prog 133 = none := by kernel_rfl
theorem ar133 : elemAr Try.prog 133 = none := by kernel_rfl
theorem k133 : Try.prog.underlying 133 = some (.int .i32) := by kernel_rfl
theorem z133 : zeroD Try.prog 133 = some (.int .i32 0) := by kernel_rfl
theorem c134 : Try.prog.cellsOf 134 = 1 := by kernel_rfl
theorem b134 : Try.prog.bytesOf 134 = 4 := by kernel_rfl
theorem a134 : aggT Try.prog 134 = false := by kernel_rfl
theorem us134 : (Try.prog.underlying 134).isSome = true := by kernel_rfl
theorem s134 : elemSl Try.prog 134 = none := by kernel_rfl
theorem ar134 : elemAr Try.prog 134 = none := by kernel_rfl
theorem k134 : Try.prog.underlying 134 = some (.int .i32) := by kernel_rfl
theorem z134 : zeroD Try.prog 134 = some (.int .i32 0) := by kernel_rfl
theorem c135 : Try.prog.cellsOf 135 = 11 := by kernel_rfl
theorem b135 : Try.prog.bytesOf 135 = 48 := by kernel_rfl
theorem a135 : aggT Try.prog 135 = true := by kernel_rfl
theorem us135 : (Try.prog.underlying 135).isSome = true := by kernel_rfl
theorem s135 : elemSl Try.prog 135 = none := by kernel_rfl
theorem ar135 : elemAr Try.prog 135 = none := by kernel_rfl
theorem z135 : zeroD Try.prog 135 = some (.agg [(.int .u64 0), (.int .u64 0), (.int .u32 0), (.int .u8 0), (.int .u8 0), (.int .u8 0), (.int .u8 0), .nilfn, .nilptr, (.int .i32 0), (.int .i32 0)]) := by kernel_rfl
theorem f135_0 : fieldOf Try.prog 135 0 = some (0, 12) := by kernel_rfl
theorem p135_0 : places Try.prog 135 0 = some (0, 1) := by kernel_rfl
theorem f135_1 : fieldOf Try.prog 135 1 = some (1, 12) := by kernel_rfl
theorem p135_1 : places Try.prog 135 1 = some (1, 1) := by kernel_rfl
theorem f135_2 : fieldOf Try.prog 135 2 = some (2, 110) := by kernel_rfl
theorem p135_2 : places Try.prog 135 2 = some (2, 1) := by kernel_rfl
theorem f135_3 : fieldOf Try.prog 135 3 = some (3, 129) := by kernel_rfl
theorem p135_3 : places Try.prog 135 3 = some (3, 1) := by kernel_rfl
theorem f135_4 : fieldOf Try.prog 135 4 = some (4, 5) := by kernel_rfl
theorem p135_4 : places Try.prog 135 4 = some (4, 1) := by kernel_rfl
theorem f135_5 : fieldOf Try.prog 135 5 = some (5, 5) := by kernel_rfl
theorem p135_5 : places Try.prog 135 5 = some (5, 1) := by kernel_rfl
theorem f135_6 : fieldOf Try.prog 135 6 = some (6, 130) := by kernel_rfl
theorem p135_6 : places Try.prog 135 6 = some (6, 1) := by kernel_rfl
theorem f135_7 : fieldOf Try.prog 135 7 = some (7, 131) := by kernel_rfl
theorem f135_8 : fieldOf Try.prog 135 8 = some (8, 132) := by kernel_rfl
theorem p135_8 : places Try.prog 135 8 = some (8, 1) := by kernel_rfl
theorem f135_9 : fieldOf Try.prog 135 9 = some (9, 133) := by kernel_rfl
theorem p135_9 : places Try.prog 135 9 = some (9, 1) := by kernel_rfl
theorem f135_10 : fieldOf Try.prog 135 10 = some (10, 134) := by kernel_rfl
theorem p135_10 : places Try.prog 135 10 = some (10, 1) := by kernel_rfl
theorem pu135 : partsU Try.prog 135 = true := by kernel_rfl
theorem c136 : Try.prog.cellsOf 136 = 11 := by kernel_rfl
theorem b136 : Try.prog.bytesOf 136 = 48 := by kernel_rfl
theorem a136 : aggT Try.prog 136 = true := by kernel_rfl
theorem us136 : (Try.prog.underlying 136).isSome = true := by kernel_rfl
theorem s136 : elemSl Try.prog 136 = none := by kernel_rfl
theorem ar136 : elemAr Try.prog 136 = none := by kernel_rfl
theorem z136 : zeroD Try.prog 136 = some (.agg [(.int .u64 0), (.int .u64 0), (.int .u32 0), (.int .u8 0), (.int .u8 0), (.int .u8 0), (.int .u8 0), .nilfn, .nilptr, (.int .i32 0), (.int .i32 0)]) := by kernel_rfl
theorem f136_0 : fieldOf Try.prog 136 0 = some (0, 12) := by kernel_rfl
theorem p136_0 : places Try.prog 136 0 = some (0, 1) := by kernel_rfl
theorem f136_1 : fieldOf Try.prog 136 1 = some (1, 12) := by kernel_rfl
theorem p136_1 : places Try.prog 136 1 = some (1, 1) := by kernel_rfl
theorem f136_2 : fieldOf Try.prog 136 2 = some (2, 110) := by kernel_rfl
theorem p136_2 : places Try.prog 136 2 = some (2, 1) := by kernel_rfl
theorem f136_3 : fieldOf Try.prog 136 3 = some (3, 129) := by kernel_rfl
theorem p136_3 : places Try.prog 136 3 = some (3, 1) := by kernel_rfl
theorem f136_4 : fieldOf Try.prog 136 4 = some (4, 5) := by kernel_rfl
theorem p136_4 : places Try.prog 136 4 = some (4, 1) := by kernel_rfl
theorem f136_5 : fieldOf Try.prog 136 5 = some (5, 5) := by kernel_rfl
theorem p136_5 : places Try.prog 136 5 = some (5, 1) := by kernel_rfl
theorem f136_6 : fieldOf Try.prog 136 6 = some (6, 130) := by kernel_rfl
theorem p136_6 : places Try.prog 136 6 = some (6, 1) := by kernel_rfl
theorem f136_7 : fieldOf Try.prog 136 7 = some (7, 131) := by kernel_rfl
theorem f136_8 : fieldOf Try.prog 136 8 = some (8, 132) := by kernel_rfl
theorem p136_8 : places Try.prog 136 8 = some (8, 1) := by kernel_rfl
theorem f136_9 : fieldOf Try.prog 136 9 = some (9, 133) := by kernel_rfl
theorem p136_9 : places Try.prog 136 9 = some (9, 1) := by kernel_rfl
theorem f136_10 : fieldOf Try.prog 136 10 = some (10, 134) := by kernel_rfl
theorem p136_10 : places Try.prog 136 10 = some (10, 1) := by kernel_rfl
theorem pu136 : partsU Try.prog 136 = true := by kernel_rfl
attribute [go_sem] c2 b2 a2 us2 s2 ar2 k2 z2 c3 b3 a3 us3 s3 ar3 k3 z3 c4 b4 a4 us4 s4 ar4 bo4 z4 c5 b5 a5 us5 s5 ar5 k5 z5 c6 b6 a6 us6 s6 ar6 k6 z6
attribute [go_sem] c7 b7 a7 us7 s7 ar7 z7 f7_0 p7_0 f7_1 p7_1 f7_2 p7_2 f7_3 p7_3 pu7 c8 b8 a8 us8 s8 ar8 z8 f8_0 p8_0 f8_1 p8_1 f8_2 p8_2 f8_3 p8_3 pu8 c9 b9 a9 us9 s9 ar9 st9 z9
attribute [go_sem] c10 b10 a10 us10 s10 ar10 st10 z10 c11 b11 a11 us11 s11 ar11 st11 z11 c12 b12 a12 us12 s12 ar12 k12 z12 c13 b13 a13 us13 s13 ar13 z13 f13_0 p13_0 f13_1 p13_1 pu13 c14 b14 a14 us14
attribute [go_sem] s14 ar14 z14 f14_0 p14_0 f14_1 p14_1 pu14 c15 b15 a15 us15 s15 ar15 z15 c16 b16 a16 us16 s16 ar16 z16 c17 b17 a17 us17 s17 ar17 z17 c18 b18 a18 us18 s18 ar18 z18 f18_0 p18_0 pu18 c19
attribute [go_sem] b19 a19 us19 s19 ar19 z19 f19_0 p19_0 pu19 c21 b21 a21 us21 s21 ar21 k21 z21 c22 b22 a22 us22 s22 ar22 z22 c23 b23 a23 us23 s23 ar23 z23 f23_0 p23_0 f23_1 p23_1 pu23 c24 b24 a24 us24
attribute [go_sem] s24 ar24 z24 f24_0 p24_0 f24_1 p24_1 pu24 c25 b25 a25 us25 s25 ar25 z25 c30 b30 a30 us30 s30 ar30 z30 f30_0 p30_0 f30_1 p30_1 pu30 c32 b32 a32 us32 s32 ar32 z32 c42 b42 a42 us42 s42 ar42
attribute [go_sem] z42 f42_0 p42_0 f42_1 p42_1 f42_2 p42_2 f42_3 p42_3 f42_4 p42_4 pu42 c43 b43 a43 us43 s43 ar43 z43 f43_0 p43_0 f43_1 p43_1 f43_2 p43_2 f43_3 p43_3 f43_4 p43_4 pu43 c46 b46 a46 us46 s46 ar46 z46 f46_0 p46_0 f46_1
attribute [go_sem] p46_1 f46_2 p46_2 f46_3 p46_3 f46_4 p46_4 pu46 c47 b47 a47 us47 s47 ar47 z47 f47_0 p47_0 f47_1 p47_1 f47_2 p47_2 f47_3 p47_3 f47_4 p47_4 pu47 c53 b53 a53 us53 s53 ar53 z53 c54 b54 a54 us54 s54 ar54 z54
attribute [go_sem] f54_0 p54_0 f54_1 p54_1 f54_2 p54_2 f54_3 p54_3 pu54 c55 b55 a55 us55 s55 ar55 z55 f55_0 p55_0 f55_1 p55_1 f55_2 p55_2 f55_3 p55_3 pu55 c59 b59 a59 us59 s59 ar59 z59 f59_0 p59_0 f59_1 p59_1 f59_2 p59_2 f59_3 p59_3
attribute [go_sem] pu59 c100 b100 a100 us100 s100 ar100 k100 z100 c103 b103 a103 us103 s103 ar103 k103 z103 c110 b110 a110 us110 s110 ar110 k110 z110 c112 b112 a112 us112 s112 ar112 k112 z112 c113 b113 a113 us113 s113 ar113 k113
attribute [go_sem] z113 c117 b117 a117 us117 s117 ar117 z117 c119 b119 a119 us119 s119 ar119 z119 c123 b123 a123 us123 s123 ar123 z123 f123_0 p123_0 f123_1 p123_1 f123_2 p123_2 f123_3 p123_3 pu123 c124 b124 a124 us124 s124 ar124 z124 f124_0 p124_0
attribute [go_sem] f124_1 p124_1 f124_2 p124_2 f124_3 p124_3 pu124 c125 b125 a125 us125 s125 ar125 z125 pu125 c126 b126 a126 us126 s126 ar126 z126 f126_0 p126_0 pu126 c127 b127 a127 us127 s127 ar127 z127 f127_0 p127_0 pu127 c129 b129 a129 us129 s129
attribute [go_sem] ar129 k129 z129 c130 b130 a130 us130 s130 ar130 k130 z130 c132 b132 a132 us132 s132 ar132 z132 c133 b133 a133 us133 s133 ar133 k133 z133 c134 b134 a134 us134 s134 ar134 k134 z134 c135 b135 a135 us135 s135 ar135
attribute [go_sem] z135 f135_0 p135_0 f135_1 p135_1 f135_2 p135_2 f135_3 p135_3 f135_4 p135_4 f135_5 p135_5 f135_6 p135_6 f135_7 f135_8 p135_8 f135_9 p135_9 f135_10 p135_10 pu135 c136 b136 a136 us136 s136 ar136 z136 f136_0 p136_0 f136_1 p136_1 f136_2 p136_2 f136_3 p136_3 f136_4 p136_4
attribute [go_sem] f136_5 p136_5 f136_6 p136_6 f136_7 f136_8 p136_8 f136_9 p136_9 f136_10 p136_10 pu136
end Abs.Y.Ty
