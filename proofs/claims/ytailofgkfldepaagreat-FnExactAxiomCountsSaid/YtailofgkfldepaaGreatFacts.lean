/- The facts on the types of this seat that the abstract walk asks for, by program. No condition. -/
import Derived.Test.YtailofgkfldepaaGreatAbsLib
import Derived.Test.YtailofgkfldepaaGreatAbsRow
import Derived.Test.YtailofgkfldepaaGreatChecked
set_option linter.all false
namespace Abs.Y.Ty
open Go Go.Proofs Abs
theorem c2 : Tryz.prog.cellsOf 2 = 1 := by kernel_rfl
theorem b2 : Tryz.prog.bytesOf 2 = 8 := by kernel_rfl
theorem a2 : aggT Tryz.prog 2 = false := by kernel_rfl
theorem us2 : (Tryz.prog.underlying 2).isSome = true := by kernel_rfl
theorem s2 : elemSl Tryz.prog 2 = none := by kernel_rfl
theorem ar2 : elemAr Tryz.prog 2 = none := by kernel_rfl
theorem k2 : Tryz.prog.underlying 2 = some (.int .i64) := by kernel_rfl
theorem z2 : zeroD Tryz.prog 2 = some (.int .i64 0) := by kernel_rfl
theorem c3 : Tryz.prog.cellsOf 3 = 1 := by kernel_rfl
theorem b3 : Tryz.prog.bytesOf 3 = 8 := by kernel_rfl
theorem a3 : aggT Tryz.prog 3 = false := by kernel_rfl
theorem us3 : (Tryz.prog.underlying 3).isSome = true := by kernel_rfl
theorem s3 : elemSl Tryz.prog 3 = none := by kernel_rfl
theorem ar3 : elemAr Tryz.prog 3 = none := by kernel_rfl
theorem k3 : Tryz.prog.underlying 3 = some (.int .i64) := by kernel_rfl
theorem z3 : zeroD Tryz.prog 3 = some (.int .i64 0) := by kernel_rfl
theorem c4 : Tryz.prog.cellsOf 4 = 1 := by kernel_rfl
theorem b4 : Tryz.prog.bytesOf 4 = 1 := by kernel_rfl
theorem a4 : aggT Tryz.prog 4 = false := by kernel_rfl
theorem us4 : (Tryz.prog.underlying 4).isSome = true := by kernel_rfl
theorem s4 : elemSl Tryz.prog 4 = none := by kernel_rfl
theorem ar4 : elemAr Tryz.prog 4 = none := by kernel_rfl
theorem bo4 : isBoolT Tryz.prog 4 = true := by kernel_rfl
theorem z4 : zeroD Tryz.prog 4 = some (.bool false) := by kernel_rfl
theorem c5 : Tryz.prog.cellsOf 5 = 1 := by kernel_rfl
theorem b5 : Tryz.prog.bytesOf 5 = 1 := by kernel_rfl
theorem a5 : aggT Tryz.prog 5 = false := by kernel_rfl
theorem us5 : (Tryz.prog.underlying 5).isSome = true := by kernel_rfl
theorem s5 : elemSl Tryz.prog 5 = none := by kernel_rfl
theorem ar5 : elemAr Tryz.prog 5 = none := by kernel_rfl
theorem k5 : Tryz.prog.underlying 5 = some (.int .u8) := by kernel_rfl
theorem z5 : zeroD Tryz.prog 5 = some (.int .u8 0) := by kernel_rfl
theorem c6 : Tryz.prog.cellsOf 6 = 1 := by kernel_rfl
theorem b6 : Tryz.prog.bytesOf 6 = 1 := by kernel_rfl
theorem a6 : aggT Tryz.prog 6 = false := by kernel_rfl
theorem us6 : (Tryz.prog.underlying 6).isSome = true := by kernel_rfl
theorem s6 : elemSl Tryz.prog 6 = none := by kernel_rfl
theorem ar6 : elemAr Tryz.prog 6 = none := by kernel_rfl
theorem k6 : Tryz.prog.underlying 6 = some (.int .u8) := by kernel_rfl
theorem z6 : zeroD Tryz.prog 6 = some (.int .u8 0) := by kernel_rfl
theorem c7 : Tryz.prog.cellsOf 7 = 4 := by kernel_rfl
theorem b7 : Tryz.prog.bytesOf 7 = 24 := by kernel_rfl
theorem a7 : aggT Tryz.prog 7 = true := by kernel_rfl
theorem us7 : (Tryz.prog.underlying 7).isSome = true := by kernel_rfl
theorem s7 : elemSl Tryz.prog 7 = none := by kernel_rfl
theorem ar7 : elemAr Tryz.prog 7 = none := by kernel_rfl
theorem z7 : zeroD Tryz.prog 7 = some (.agg [(.int .i64 0), (.int .i64 0), (.bool false), (.int .u8 0)]) := by kernel_rfl
theorem f7_0 : fieldOf Tryz.prog 7 0 = some (0, 2) := by kernel_rfl
theorem p7_0 : places Tryz.prog 7 0 = some (0, 1) := by kernel_rfl
theorem f7_1 : fieldOf Tryz.prog 7 1 = some (1, 3) := by kernel_rfl
theorem p7_1 : places Tryz.prog 7 1 = some (1, 1) := by kernel_rfl
theorem f7_2 : fieldOf Tryz.prog 7 2 = some (2, 4) := by kernel_rfl
theorem p7_2 : places Tryz.prog 7 2 = some (2, 1) := by kernel_rfl
theorem f7_3 : fieldOf Tryz.prog 7 3 = some (3, 6) := by kernel_rfl
theorem p7_3 : places Tryz.prog 7 3 = some (3, 1) := by kernel_rfl
theorem pu7 : partsU Tryz.prog 7 = true := by kernel_rfl
theorem c8 : Tryz.prog.cellsOf 8 = 4 := by kernel_rfl
theorem b8 : Tryz.prog.bytesOf 8 = 24 := by kernel_rfl
theorem a8 : aggT Tryz.prog 8 = true := by kernel_rfl
theorem us8 : (Tryz.prog.underlying 8).isSome = true := by kernel_rfl
theorem s8 : elemSl Tryz.prog 8 = none := by kernel_rfl
theorem ar8 : elemAr Tryz.prog 8 = none := by kernel_rfl
theorem z8 : zeroD Tryz.prog 8 = some (.agg [(.int .i64 0), (.int .i64 0), (.bool false), (.int .u8 0)]) := by kernel_rfl
theorem f8_0 : fieldOf Tryz.prog 8 0 = some (0, 2) := by kernel_rfl
theorem p8_0 : places Tryz.prog 8 0 = some (0, 1) := by kernel_rfl
theorem f8_1 : fieldOf Tryz.prog 8 1 = some (1, 3) := by kernel_rfl
theorem p8_1 : places Tryz.prog 8 1 = some (1, 1) := by kernel_rfl
theorem f8_2 : fieldOf Tryz.prog 8 2 = some (2, 4) := by kernel_rfl
theorem p8_2 : places Tryz.prog 8 2 = some (2, 1) := by kernel_rfl
theorem f8_3 : fieldOf Tryz.prog 8 3 = some (3, 6) := by kernel_rfl
theorem p8_3 : places Tryz.prog 8 3 = some (3, 1) := by kernel_rfl
theorem pu8 : partsU Tryz.prog 8 = true := by kernel_rfl
theorem c9 : Tryz.prog.cellsOf 9 = 1 := by kernel_rfl
theorem b9 : Tryz.prog.bytesOf 9 = 16 := by kernel_rfl
theorem a9 : aggT Tryz.prog 9 = false := by kernel_rfl
theorem us9 : (Tryz.prog.underlying 9).isSome = true := by kernel_rfl
theorem s9 : elemSl Tryz.prog 9 = none := by kernel_rfl
theorem ar9 : elemAr Tryz.prog 9 = none := by kernel_rfl
theorem st9 : isStrT Tryz.prog 9 = true := by kernel_rfl
theorem z9 : zeroD Tryz.prog 9 = some (.str ByteArray.empty) := by kernel_rfl
theorem c10 : Tryz.prog.cellsOf 10 = 1 := by kernel_rfl
theorem b10 : Tryz.prog.bytesOf 10 = 16 := by kernel_rfl
theorem a10 : aggT Tryz.prog 10 = false := by kernel_rfl
theorem us10 : (Tryz.prog.underlying 10).isSome = true := by kernel_rfl
theorem s10 : elemSl Tryz.prog 10 = none := by kernel_rfl
theorem ar10 : elemAr Tryz.prog 10 = none := by kernel_rfl
theorem st10 : isStrT Tryz.prog 10 = true := by kernel_rfl
theorem z10 : zeroD Tryz.prog 10 = some (.str ByteArray.empty) := by kernel_rfl
theorem c11 : Tryz.prog.cellsOf 11 = 1 := by kernel_rfl
theorem b11 : Tryz.prog.bytesOf 11 = 16 := by kernel_rfl
theorem a11 : aggT Tryz.prog 11 = false := by kernel_rfl
theorem us11 : (Tryz.prog.underlying 11).isSome = true := by kernel_rfl
theorem s11 : elemSl Tryz.prog 11 = none := by kernel_rfl
theorem ar11 : elemAr Tryz.prog 11 = none := by kernel_rfl
theorem st11 : isStrT Tryz.prog 11 = true := by kernel_rfl
theorem z11 : zeroD Tryz.prog 11 = some (.str ByteArray.empty) := by kernel_rfl
theorem c12 : Tryz.prog.cellsOf 12 = 1 := by kernel_rfl
theorem b12 : Tryz.prog.bytesOf 12 = 8 := by kernel_rfl
theorem a12 : aggT Tryz.prog 12 = false := by kernel_rfl
theorem us12 : (Tryz.prog.underlying 12).isSome = true := by kernel_rfl
theorem s12 : elemSl Tryz.prog 12 = none := by kernel_rfl
theorem ar12 : elemAr Tryz.prog 12 = none := by kernel_rfl
theorem k12 : Tryz.prog.underlying 12 = some (.int .u64) := by kernel_rfl
theorem z12 : zeroD Tryz.prog 12 = some (.int .u64 0) := by kernel_rfl
theorem c13 : Tryz.prog.cellsOf 13 = 2 := by kernel_rfl
theorem b13 : Tryz.prog.bytesOf 13 = 24 := by kernel_rfl
theorem a13 : aggT Tryz.prog 13 = true := by kernel_rfl
theorem us13 : (Tryz.prog.underlying 13).isSome = true := by kernel_rfl
theorem s13 : elemSl Tryz.prog 13 = none := by kernel_rfl
theorem ar13 : elemAr Tryz.prog 13 = none := by kernel_rfl
theorem z13 : zeroD Tryz.prog 13 = some (.agg [(.str ByteArray.empty), (.int .u64 0)]) := by kernel_rfl
theorem f13_0 : fieldOf Tryz.prog 13 0 = some (0, 9) := by kernel_rfl
theorem p13_0 : places Tryz.prog 13 0 = some (0, 1) := by kernel_rfl
theorem f13_1 : fieldOf Tryz.prog 13 1 = some (1, 12) := by kernel_rfl
theorem p13_1 : places Tryz.prog 13 1 = some (1, 1) := by kernel_rfl
theorem pu13 : partsU Tryz.prog 13 = true := by kernel_rfl
theorem c14 : Tryz.prog.cellsOf 14 = 2 := by kernel_rfl
theorem b14 : Tryz.prog.bytesOf 14 = 24 := by kernel_rfl
theorem a14 : aggT Tryz.prog 14 = true := by kernel_rfl
theorem us14 : (Tryz.prog.underlying 14).isSome = true := by kernel_rfl
theorem s14 : elemSl Tryz.prog 14 = none := by kernel_rfl
theorem ar14 : elemAr Tryz.prog 14 = none := by kernel_rfl
theorem z14 : zeroD Tryz.prog 14 = some (.agg [(.str ByteArray.empty), (.int .u64 0)]) := by kernel_rfl
theorem f14_0 : fieldOf Tryz.prog 14 0 = some (0, 9) := by kernel_rfl
theorem p14_0 : places Tryz.prog 14 0 = some (0, 1) := by kernel_rfl
theorem f14_1 : fieldOf Tryz.prog 14 1 = some (1, 12) := by kernel_rfl
theorem p14_1 : places Tryz.prog 14 1 = some (1, 1) := by kernel_rfl
theorem pu14 : partsU Tryz.prog 14 = true := by kernel_rfl
theorem c15 : Tryz.prog.cellsOf 15 = 1 := by kernel_rfl
theorem b15 : Tryz.prog.bytesOf 15 = 8 := by kernel_rfl
theorem a15 : aggT Tryz.prog 15 = false := by kernel_rfl
theorem us15 : (Tryz.prog.underlying 15).isSome = true := by kernel_rfl
theorem s15 : elemSl Tryz.prog 15 = none := by kernel_rfl
theorem ar15 : elemAr Tryz.prog 15 = none := by kernel_rfl
theorem z15 : zeroD Tryz.prog 15 = some .nilptr := by kernel_rfl
theorem c16 : Tryz.prog.cellsOf 16 = 1 := by kernel_rfl
theorem b16 : Tryz.prog.bytesOf 16 = 8 := by kernel_rfl
theorem a16 : aggT Tryz.prog 16 = false := by kernel_rfl
theorem us16 : (Tryz.prog.underlying 16).isSome = true := by kernel_rfl
theorem s16 : elemSl Tryz.prog 16 = none := by kernel_rfl
theorem ar16 : elemAr Tryz.prog 16 = none := by kernel_rfl
theorem z16 : zeroD Tryz.prog 16 = some .nilptr := by kernel_rfl
theorem c17 : Tryz.prog.cellsOf 17 = 1 := by kernel_rfl
theorem b17 : Tryz.prog.bytesOf 17 = 8 := by kernel_rfl
theorem a17 : aggT Tryz.prog 17 = false := by kernel_rfl
theorem us17 : (Tryz.prog.underlying 17).isSome = true := by kernel_rfl
theorem s17 : elemSl Tryz.prog 17 = none := by kernel_rfl
theorem ar17 : elemAr Tryz.prog 17 = none := by kernel_rfl
theorem z17 : zeroD Tryz.prog 17 = some .nilptr := by kernel_rfl
theorem c18 : Tryz.prog.cellsOf 18 = 1 := by kernel_rfl
theorem b18 : Tryz.prog.bytesOf 18 = 8 := by kernel_rfl
theorem a18 : aggT Tryz.prog 18 = true := by kernel_rfl
theorem us18 : (Tryz.prog.underlying 18).isSome = true := by kernel_rfl
theorem s18 : elemSl Tryz.prog 18 = none := by kernel_rfl
theorem ar18 : elemAr Tryz.prog 18 = none := by kernel_rfl
theorem z18 : zeroD Tryz.prog 18 = some (.agg [.nilptr]) := by kernel_rfl
theorem f18_0 : fieldOf Tryz.prog 18 0 = some (0, 17) := by kernel_rfl
theorem p18_0 : places Tryz.prog 18 0 = some (0, 1) := by kernel_rfl
theorem pu18 : partsU Tryz.prog 18 = true := by kernel_rfl
theorem c19 : Tryz.prog.cellsOf 19 = 1 := by kernel_rfl
theorem b19 : Tryz.prog.bytesOf 19 = 8 := by kernel_rfl
theorem a19 : aggT Tryz.prog 19 = true := by kernel_rfl
theorem us19 : (Tryz.prog.underlying 19).isSome = true := by kernel_rfl
theorem s19 : elemSl Tryz.prog 19 = none := by kernel_rfl
theorem ar19 : elemAr Tryz.prog 19 = none := by kernel_rfl
theorem z19 : zeroD Tryz.prog 19 = some (.agg [.nilptr]) := by kernel_rfl
theorem f19_0 : fieldOf Tryz.prog 19 0 = some (0, 17) := by kernel_rfl
theorem p19_0 : places Tryz.prog 19 0 = some (0, 1) := by kernel_rfl
theorem pu19 : partsU Tryz.prog 19 = true := by kernel_rfl
theorem c21 : Tryz.prog.cellsOf 21 = 1 := by kernel_rfl
theorem b21 : Tryz.prog.bytesOf 21 = 4 := by kernel_rfl
theorem a21 : aggT Tryz.prog 21 = false := by kernel_rfl
theorem us21 : (Tryz.prog.underlying 21).isSome = true := by kernel_rfl
theorem s21 : elemSl Tryz.prog 21 = none := by kernel_rfl
theorem ar21 : elemAr Tryz.prog 21 = none := by kernel_rfl
theorem k21 : Tryz.prog.underlying 21 = some (.int .i32) := by kernel_rfl
theorem z21 : zeroD Tryz.prog 21 = some (.int .i32 0) := by kernel_rfl
theorem c22 : Tryz.prog.cellsOf 22 = 1 := by kernel_rfl
theorem b22 : Tryz.prog.bytesOf 22 = 24 := by kernel_rfl
theorem a22 : aggT Tryz.prog 22 = false := by kernel_rfl
theorem us22 : (Tryz.prog.underlying 22).isSome = true := by kernel_rfl
theorem s22 : elemSl Tryz.prog 22 = some 39 := by kernel_rfl
theorem ar22 : elemAr Tryz.prog 22 = none := by kernel_rfl
theorem z22 : zeroD Tryz.prog 22 = some (.slice []) := by kernel_rfl
theorem c23 : Tryz.prog.cellsOf 23 = 2 := by kernel_rfl
theorem b23 : Tryz.prog.bytesOf 23 = 32 := by kernel_rfl
theorem a23 : aggT Tryz.prog 23 = true := by kernel_rfl
theorem us23 : (Tryz.prog.underlying 23).isSome = true := by kernel_rfl
theorem s23 : elemSl Tryz.prog 23 = none := by kernel_rfl
theorem ar23 : elemAr Tryz.prog 23 = none := by kernel_rfl
theorem z23 : zeroD Tryz.prog 23 = some (.agg [(.int .i64 0), (.slice [])]) := by kernel_rfl
theorem f23_0 : fieldOf Tryz.prog 23 0 = some (0, 3) := by kernel_rfl
theorem p23_0 : places Tryz.prog 23 0 = some (0, 1) := by kernel_rfl
theorem f23_1 : fieldOf Tryz.prog 23 1 = some (1, 22) := by kernel_rfl
theorem p23_1 : places Tryz.prog 23 1 = some (1, 1) := by kernel_rfl
theorem pu23 : partsU Tryz.prog 23 = true := by kernel_rfl
theorem c24 : Tryz.prog.cellsOf 24 = 2 := by kernel_rfl
theorem b24 : Tryz.prog.bytesOf 24 = 32 := by kernel_rfl
theorem a24 : aggT Tryz.prog 24 = true := by kernel_rfl
theorem us24 : (Tryz.prog.underlying 24).isSome = true := by kernel_rfl
theorem s24 : elemSl Tryz.prog 24 = none := by kernel_rfl
theorem ar24 : elemAr Tryz.prog 24 = none := by kernel_rfl
theorem z24 : zeroD Tryz.prog 24 = some (.agg [(.int .i64 0), (.slice [])]) := by kernel_rfl
theorem f24_0 : fieldOf Tryz.prog 24 0 = some (0, 3) := by kernel_rfl
theorem p24_0 : places Tryz.prog 24 0 = some (0, 1) := by kernel_rfl
theorem f24_1 : fieldOf Tryz.prog 24 1 = some (1, 22) := by kernel_rfl
theorem p24_1 : places Tryz.prog 24 1 = some (1, 1) := by kernel_rfl
theorem pu24 : partsU Tryz.prog 24 = true := by kernel_rfl
theorem c25 : Tryz.prog.cellsOf 25 = 1 := by kernel_rfl
theorem b25 : Tryz.prog.bytesOf 25 = 24 := by kernel_rfl
theorem a25 : aggT Tryz.prog 25 = false := by kernel_rfl
theorem us25 : (Tryz.prog.underlying 25).isSome = true := by kernel_rfl
theorem s25 : elemSl Tryz.prog 25 = some 47 := by kernel_rfl
theorem ar25 : elemAr Tryz.prog 25 = none := by kernel_rfl
theorem z25 : zeroD Tryz.prog 25 = some (.slice []) := by kernel_rfl
theorem c28 : Tryz.prog.cellsOf 28 = 1 := by kernel_rfl
theorem b28 : Tryz.prog.bytesOf 28 = 24 := by kernel_rfl
theorem a28 : aggT Tryz.prog 28 = false := by kernel_rfl
theorem us28 : (Tryz.prog.underlying 28).isSome = true := by kernel_rfl
theorem s28 : elemSl Tryz.prog 28 = some 49 := by kernel_rfl
theorem ar28 : elemAr Tryz.prog 28 = none := by kernel_rfl
theorem z28 : zeroD Tryz.prog 28 = some (.slice []) := by kernel_rfl
theorem c31 : Tryz.prog.cellsOf 31 = 2 := by kernel_rfl
theorem b31 : Tryz.prog.bytesOf 31 = 32 := by kernel_rfl
theorem a31 : aggT Tryz.prog 31 = true := by kernel_rfl
theorem us31 : (Tryz.prog.underlying 31).isSome = true := by kernel_rfl
theorem s31 : elemSl Tryz.prog 31 = none := by kernel_rfl
theorem ar31 : elemAr Tryz.prog 31 = none := by kernel_rfl
theorem z31 : zeroD Tryz.prog 31 = some (.agg [(.int .i64 0), (.slice [])]) := by kernel_rfl
theorem f31_0 : fieldOf Tryz.prog 31 0 = some (0, 3) := by kernel_rfl
theorem p31_0 : places Tryz.prog 31 0 = some (0, 1) := by kernel_rfl
theorem f31_1 : fieldOf Tryz.prog 31 1 = some (1, 22) := by kernel_rfl
theorem p31_1 : places Tryz.prog 31 1 = some (1, 1) := by kernel_rfl
theorem pu31 : partsU Tryz.prog 31 = true := by kernel_rfl
theorem c39 : Tryz.prog.cellsOf 39 = 1 := by kernel_rfl
theorem b39 : Tryz.prog.bytesOf 39 = 24 := by kernel_rfl
theorem a39 : aggT Tryz.prog 39 = false := by kernel_rfl
theorem us39 : (Tryz.prog.underlying 39).isSome = true := by kernel_rfl
theorem s39 : elemSl Tryz.prog 39 = some 3 := by kernel_rfl
theorem ar39 : elemAr Tryz.prog 39 = none := by kernel_rfl
theorem z39 : zeroD Tryz.prog 39 = some (.slice []) := by kernel_rfl
theorem c46 : Tryz.prog.cellsOf 46 = 4 := by kernel_rfl
theorem b46 : Tryz.prog.bytesOf 46 = 48 := by kernel_rfl
theorem a46 : aggT Tryz.prog 46 = true := by kernel_rfl
theorem us46 : (Tryz.prog.underlying 46).isSome = true := by kernel_rfl
theorem s46 : elemSl Tryz.prog 46 = none := by kernel_rfl
theorem ar46 : elemAr Tryz.prog 46 = none := by kernel_rfl
theorem z46 : zeroD Tryz.prog 46 = some (.agg [(.slice []), (.int .i64 0), (.int .i64 0), (.int .i64 0)]) := by kernel_rfl
theorem f46_0 : fieldOf Tryz.prog 46 0 = some (0, 39) := by kernel_rfl
theorem p46_0 : places Tryz.prog 46 0 = some (0, 1) := by kernel_rfl
theorem f46_1 : fieldOf Tryz.prog 46 1 = some (1, 3) := by kernel_rfl
theorem p46_1 : places Tryz.prog 46 1 = some (1, 1) := by kernel_rfl
theorem f46_2 : fieldOf Tryz.prog 46 2 = some (2, 3) := by kernel_rfl
theorem p46_2 : places Tryz.prog 46 2 = some (2, 1) := by kernel_rfl
theorem f46_3 : fieldOf Tryz.prog 46 3 = some (3, 3) := by kernel_rfl
theorem p46_3 : places Tryz.prog 46 3 = some (3, 1) := by kernel_rfl
theorem pu46 : partsU Tryz.prog 46 = true := by kernel_rfl
theorem c47 : Tryz.prog.cellsOf 47 = 4 := by kernel_rfl
theorem b47 : Tryz.prog.bytesOf 47 = 48 := by kernel_rfl
theorem a47 : aggT Tryz.prog 47 = true := by kernel_rfl
theorem us47 : (Tryz.prog.underlying 47).isSome = true := by kernel_rfl
theorem s47 : elemSl Tryz.prog 47 = none := by kernel_rfl
theorem ar47 : elemAr Tryz.prog 47 = none := by kernel_rfl
theorem z47 : zeroD Tryz.prog 47 = some (.agg [(.slice []), (.int .i64 0), (.int .i64 0), (.int .i64 0)]) := by kernel_rfl
theorem f47_0 : fieldOf Tryz.prog 47 0 = some (0, 39) := by kernel_rfl
theorem p47_0 : places Tryz.prog 47 0 = some (0, 1) := by kernel_rfl
theorem f47_1 : fieldOf Tryz.prog 47 1 = some (1, 3) := by kernel_rfl
theorem p47_1 : places Tryz.prog 47 1 = some (1, 1) := by kernel_rfl
theorem f47_2 : fieldOf Tryz.prog 47 2 = some (2, 3) := by kernel_rfl
theorem p47_2 : places Tryz.prog 47 2 = some (2, 1) := by kernel_rfl
theorem f47_3 : fieldOf Tryz.prog 47 3 = some (3, 3) := by kernel_rfl
theorem p47_3 : places Tryz.prog 47 3 = some (3, 1) := by kernel_rfl
theorem pu47 : partsU Tryz.prog 47 = true := by kernel_rfl
theorem c49 : Tryz.prog.cellsOf 49 = 4 := by kernel_rfl
theorem b49 : Tryz.prog.bytesOf 49 = 48 := by kernel_rfl
theorem a49 : aggT Tryz.prog 49 = true := by kernel_rfl
theorem us49 : (Tryz.prog.underlying 49).isSome = true := by kernel_rfl
theorem s49 : elemSl Tryz.prog 49 = none := by kernel_rfl
theorem ar49 : elemAr Tryz.prog 49 = none := by kernel_rfl
theorem z49 : zeroD Tryz.prog 49 = some (.agg [(.slice []), (.int .i64 0), (.int .i64 0), (.int .i64 0)]) := by kernel_rfl
theorem f49_0 : fieldOf Tryz.prog 49 0 = some (0, 39) := by kernel_rfl
theorem p49_0 : places Tryz.prog 49 0 = some (0, 1) := by kernel_rfl
theorem f49_1 : fieldOf Tryz.prog 49 1 = some (1, 3) := by kernel_rfl
theorem p49_1 : places Tryz.prog 49 1 = some (1, 1) := by kernel_rfl
theorem f49_2 : fieldOf Tryz.prog 49 2 = some (2, 3) := by kernel_rfl
theorem p49_2 : places Tryz.prog 49 2 = some (2, 1) := by kernel_rfl
theorem f49_3 : fieldOf Tryz.prog 49 3 = some (3, 3) := by kernel_rfl
theorem p49_3 : places Tryz.prog 49 3 = some (3, 1) := by kernel_rfl
theorem pu49 : partsU Tryz.prog 49 = true := by kernel_rfl
theorem c59 : Tryz.prog.cellsOf 59 = 1 := by kernel_rfl
theorem b59 : Tryz.prog.bytesOf 59 = 24 := by kernel_rfl
theorem a59 : aggT Tryz.prog 59 = false := by kernel_rfl
theorem us59 : (Tryz.prog.underlying 59).isSome = true := by kernel_rfl
theorem s59 : elemSl Tryz.prog 59 = some 4 := by kernel_rfl
theorem ar59 : elemAr Tryz.prog 59 = none := by kernel_rfl
theorem z59 : zeroD Tryz.prog 59 = some (.slice []) := by kernel_rfl
theorem c95 : Tryz.prog.cellsOf 95 = 1 := by kernel_rfl
theorem b95 : Tryz.prog.bytesOf 95 = 8 := by kernel_rfl
theorem a95 : aggT Tryz.prog 95 = false := by kernel_rfl
theorem us95 : (Tryz.prog.underlying 95).isSome = true := by kernel_rfl
theorem s95 : elemSl Tryz.prog 95 = none := by kernel_rfl
theorem ar95 : elemAr Tryz.prog 95 = none := by kernel_rfl
theorem k95 : Tryz.prog.underlying 95 = some (.int .u64) := by kernel_rfl
theorem z95 : zeroD Tryz.prog 95 = some (.int .u64 0) := by kernel_rfl
theorem c98 : Tryz.prog.cellsOf 98 = 1 := by kernel_rfl
theorem b98 : Tryz.prog.bytesOf 98 = 8 := by kernel_rfl
theorem a98 : aggT Tryz.prog 98 = false := by kernel_rfl
theorem us98 : (Tryz.prog.underlying 98).isSome = true := by kernel_rfl
theorem s98 : elemSl Tryz.prog 98 = none := by kernel_rfl
theorem ar98 : elemAr Tryz.prog 98 = none := by kernel_rfl
theorem k98 : Tryz.prog.underlying 98 = some (.int .i64) := by kernel_rfl
theorem z98 : zeroD Tryz.prog 98 = some (.int .i64 0) := by kernel_rfl
theorem c106 : Tryz.prog.cellsOf 106 = 1 := by kernel_rfl
theorem b106 : Tryz.prog.bytesOf 106 = 4 := by kernel_rfl
theorem a106 : aggT Tryz.prog 106 = false := by kernel_rfl
theorem us106 : (Tryz.prog.underlying 106).isSome = true := by kernel_rfl
theorem s106 : elemSl Tryz.prog 106 = none := by kernel_rfl
theorem ar106 : elemAr Tryz.prog 106 = none := by kernel_rfl
theorem k106 : Tryz.prog.underlying 106 = some (.int .u32) := by kernel_rfl
theorem z106 : zeroD Tryz.prog 106 = some (.int .u32 0) := by kernel_rfl
theorem c108 : Tryz.prog.cellsOf 108 = 1 := by kernel_rfl
theorem b108 : Tryz.prog.bytesOf 108 = 8 := by kernel_rfl
theorem a108 : aggT Tryz.prog 108 = false := by kernel_rfl
theorem us108 : (Tryz.prog.underlying 108).isSome = true := by kernel_rfl
theorem s108 : elemSl Tryz.prog 108 = none := by kernel_rfl
theorem ar108 : elemAr Tryz.prog 108 = none := by kernel_rfl
theorem k108 : Tryz.prog.underlying 108 = some (.int .u64) := by kernel_rfl
theorem z108 : zeroD Tryz.prog 108 = some (.int .u64 0) := by kernel_rfl
theorem c109 : Tryz.prog.cellsOf 109 = 1 := by kernel_rfl
theorem b109 : Tryz.prog.bytesOf 109 = 8 := by kernel_rfl
theorem a109 : aggT Tryz.prog 109 = false := by kernel_rfl
theorem us109 : (Tryz.prog.underlying 109).isSome = true := by kernel_rfl
theorem s109 : elemSl Tryz.prog 109 = none := by kernel_rfl
theorem ar109 : elemAr Tryz.prog 109 = none := by kernel_rfl
theorem k109 : Tryz.prog.underlying 109 = some (.int .u64) := by kernel_rfl
theorem z109 : zeroD Tryz.prog 109 = some (.int .u64 0) := by kernel_rfl
theorem c113 : Tryz.prog.cellsOf 113 = 1 := by kernel_rfl
theorem b113 : Tryz.prog.bytesOf 113 = 8 := by kernel_rfl
theorem a113 : aggT Tryz.prog 113 = false := by kernel_rfl
theorem us113 : (Tryz.prog.underlying 113).isSome = true := by kernel_rfl
theorem s113 : elemSl Tryz.prog 113 = none := by kernel_rfl
theorem ar113 : elemAr Tryz.prog 113 = none := by kernel_rfl
theorem z113 : zeroD Tryz.prog 113 = some .nilptr := by kernel_rfl
theorem c115 : Tryz.prog.cellsOf 115 = 1 := by kernel_rfl
theorem b115 : Tryz.prog.bytesOf 115 = 8 := by kernel_rfl
theorem a115 : aggT Tryz.prog 115 = false := by kernel_rfl
theorem us115 : (Tryz.prog.underlying 115).isSome = true := by kernel_rfl
theorem s115 : elemSl Tryz.prog 115 = none := by kernel_rfl
theorem ar115 : elemAr Tryz.prog 115 = none := by kernel_rfl
theorem z115 : zeroD Tryz.prog 115 = some .nilptr := by kernel_rfl
theorem c119 : Tryz.prog.cellsOf 119 = 4 := by kernel_rfl
theorem b119 : Tryz.prog.bytesOf 119 = 40 := by kernel_rfl
theorem a119 : aggT Tryz.prog 119 = true := by kernel_rfl
theorem us119 : (Tryz.prog.underlying 119).isSome = true := by kernel_rfl
theorem s119 : elemSl Tryz.prog 119 = none := by kernel_rfl
theorem ar119 : elemAr Tryz.prog 119 = none := by kernel_rfl
theorem z119 : zeroD Tryz.prog 119 = some (.agg [.nilptr, .nilptr, .nilptr, (.str ByteArray.empty)]) := by kernel_rfl
theorem f119_0 : fieldOf Tryz.prog 119 0 = some (0, 17) := by kernel_rfl
theorem p119_0 : places Tryz.prog 119 0 = some (0, 1) := by kernel_rfl
theorem f119_1 : fieldOf Tryz.prog 119 1 = some (1, 17) := by kernel_rfl
theorem p119_1 : places Tryz.prog 119 1 = some (1, 1) := by kernel_rfl
theorem f119_2 : fieldOf Tryz.prog 119 2 = some (2, 17) := by kernel_rfl
theorem p119_2 : places Tryz.prog 119 2 = some (2, 1) := by kernel_rfl
theorem f119_3 : fieldOf Tryz.prog 119 3 = some (3, 9) := by kernel_rfl
theorem p119_3 : places Tryz.prog 119 3 = some (3, 1) := by kernel_rfl
theorem pu119 : partsU Tryz.prog 119 = true := by kernel_rfl
theorem c120 : Tryz.prog.cellsOf 120 = 4 := by kernel_rfl
theorem b120 : Tryz.prog.bytesOf 120 = 40 := by kernel_rfl
theorem a120 : aggT Tryz.prog 120 = true := by kernel_rfl
theorem us120 : (Tryz.prog.underlying 120).isSome = true := by kernel_rfl
theorem s120 : elemSl Tryz.prog 120 = none := by kernel_rfl
theorem ar120 : elemAr Tryz.prog 120 = none := by kernel_rfl
theorem z120 : zeroD Tryz.prog 120 = some (.agg [.nilptr, .nilptr, .nilptr, (.str ByteArray.empty)]) := by kernel_rfl
theorem f120_0 : fieldOf Tryz.prog 120 0 = some (0, 17) := by kernel_rfl
theorem p120_0 : places Tryz.prog 120 0 = some (0, 1) := by kernel_rfl
theorem f120_1 : fieldOf Tryz.prog 120 1 = some (1, 17) := by kernel_rfl
theorem p120_1 : places Tryz.prog 120 1 = some (1, 1) := by kernel_rfl
theorem f120_2 : fieldOf Tryz.prog 120 2 = some (2, 17) := by kernel_rfl
theorem p120_2 : places Tryz.prog 120 2 = some (2, 1) := by kernel_rfl
theorem f120_3 : fieldOf Tryz.prog 120 3 = some (3, 9) := by kernel_rfl
theorem p120_3 : places Tryz.prog 120 3 = some (3, 1) := by kernel_rfl
theorem pu120 : partsU Tryz.prog 120 = true := by kernel_rfl
theorem c121 : Tryz.prog.cellsOf 121 = 0 := by kernel_rfl
theorem b121 : Tryz.prog.bytesOf 121 = 0 := by kernel_rfl
theorem a121 : aggT Tryz.prog 121 = true := by kernel_rfl
theorem us121 : (Tryz.prog.underlying 121).isSome = true := by kernel_rfl
theorem s121 : elemSl Tryz.prog 121 = none := by kernel_rfl
theorem ar121 : elemAr Tryz.prog 121 = some (0, 16) := by kernel_rfl
theorem z121 : zeroD Tryz.prog 121 = some (.agg []) := by kernel_rfl
theorem pu121 : partsU Tryz.prog 121 = true := by kernel_rfl
theorem c122 : Tryz.prog.cellsOf 122 = 0 := by kernel_rfl
theorem b122 : Tryz.prog.bytesOf 122 = 0 := by kernel_rfl
theorem a122 : aggT Tryz.prog 122 = true := by kernel_rfl
theorem us122 : (Tryz.prog.underlying 122).isSome = true := by kernel_rfl
theorem s122 : elemSl Tryz.prog 122 = none := by kernel_rfl
theorem ar122 : elemAr Tryz.prog 122 = none := by kernel_rfl
theorem z122 : zeroD Tryz.prog 122 = some (.agg []) := by kernel_rfl
theorem f122_0 : fieldOf Tryz.prog 122 0 = some (0, 121) := by kernel_rfl
theorem p122_0 : places Tryz.prog 122 0 = some (0, 0) := by kernel_rfl
theorem pu122 : partsU Tryz.prog 122 = true := by kernel_rfl
theorem c123 : Tryz.prog.cellsOf 123 = 0 := by kernel_rfl
theorem b123 : Tryz.prog.bytesOf 123 = 0 := by kernel_rfl
theorem a123 : aggT Tryz.prog 123 = true := by kernel_rfl
theorem us123 : (Tryz.prog.underlying 123).isSome = true := by kernel_rfl
theorem s123 : elemSl Tryz.prog 123 = none := by kernel_rfl
theorem ar123 : elemAr Tryz.prog 123 = none := by kernel_rfl
theorem z123 : zeroD Tryz.prog 123 = some (.agg []) := by kernel_rfl
theorem f123_0 : fieldOf Tryz.prog 123 0 = some (0, 121) := by kernel_rfl
theorem p123_0 : places Tryz.prog 123 0 = some (0, 0) := by kernel_rfl
theorem pu123 : partsU Tryz.prog 123 = true := by kernel_rfl
theorem c125 : Tryz.prog.cellsOf 125 = 1 := by kernel_rfl
theorem b125 : Tryz.prog.bytesOf 125 = 1 := by kernel_rfl
theorem a125 : aggT Tryz.prog 125 = false := by kernel_rfl
theorem us125 : (Tryz.prog.underlying 125).isSome = true := by kernel_rfl
theorem s125 : elemSl Tryz.prog 125 = none := by kernel_rfl
theorem ar125 : elemAr Tryz.prog 125 = none := by kernel_rfl
theorem k125 : Tryz.prog.underlying 125 = some (.int .u8) := by kernel_rfl
theorem z125 : zeroD Tryz.prog 125 = some (.int .u8 0) := by kernel_rfl
theorem c126 : Tryz.prog.cellsOf 126 = 1 := by kernel_rfl
theorem b126 : Tryz.prog.bytesOf 126 = 1 := by kernel_rfl
theorem a126 : aggT Tryz.prog 126 = false := by kernel_rfl
theorem us126 : (Tryz.prog.underlying 126).isSome = true := by kernel_rfl
theorem s126 : elemSl Tryz.prog 126 = none := by kernel_rfl
theorem ar126 : elemAr Tryz.prog 126 = none := by kernel_rfl
theorem k126 : Tryz.prog.underlying 126 = some (.int .u8) := by kernel_rfl
theorem z126 : zeroD Tryz.prog 126 = some (.int .u8 0) := by kernel_rfl
theorem c128 : Tryz.prog.cellsOf 128 = 1 := by kernel_rfl
theorem b128 : Tryz.prog.bytesOf 128 = 8 := by kernel_rfl
theorem a128 : aggT Tryz.prog 128 = false := by kernel_rfl
theorem us128 : (Tryz.prog.underlying 128).isSome = true := by kernel_rfl
theorem s128 : elemSl Tryz.prog 128 = none := by kernel_rfl
theorem ar128 : elemAr Tryz.prog 128 = none := by kernel_rfl
theorem z128 : zeroD Tryz.prog 128 = some .nilptr := by kernel_rfl
theorem c129 : Tryz.prog.cellsOf 129 = 1 := by kernel_rfl
theorem b129 : Tryz.prog.bytesOf 129 = 4 := by kernel_rfl
theorem a129 : aggT Tryz.prog 129 = false := by kernel_rfl
theorem us129 : (Tryz.prog.underlying 129).isSome = true := by kernel_rfl
theorem s129 : elemSl Tryz.prog 129 = none := by kernel_rfl
theorem ar129 : elemAr Tryz.prog 129 = none := by kernel_rfl
theorem k129 : Tryz.prog.underlying 129 = some (.int .i32) := by kernel_rfl
theorem z129 : zeroD Tryz.prog 129 = some (.int .i32 0) := by kernel_rfl
theorem c130 : Tryz.prog.cellsOf 130 = 1 := by kernel_rfl
theorem b130 : Tryz.prog.bytesOf 130 = 4 := by kernel_rfl
theorem a130 : aggT Tryz.prog 130 = false := by kernel_rfl
theorem us130 : (Tryz.prog.underlying 130).isSome = true := by kernel_rfl
theorem s130 : elemSl Tryz.prog 130 = none := by kernel_rfl
theorem ar130 : elemAr Tryz.prog 130 = none := by kernel_rfl
theorem k130 : Tryz.prog.underlying 130 = some (.int .i32) := by kernel_rfl
theorem z130 : zeroD Tryz.prog 130 = some (.int .i32 0) := by kernel_rfl
theorem c131 : Tryz.prog.cellsOf 131 = 11 := by kernel_rfl
theorem b131 : Tryz.prog.bytesOf 131 = 48 := by kernel_rfl
theorem a131 : aggT Tryz.prog 131 = true := by kernel_rfl
theorem us131 : (Tryz.prog.underlying 131).isSome = true := by kernel_rfl
theorem s131 : elemSl Tryz.prog 131 = none := by kernel_rfl
theorem ar131 : elemAr Tryz.prog 131 = none := by kernel_rfl
theorem z131 : zeroD Tryz.prog 131 = some (.agg [(.int .u64 0), (.int .u64 0), (.int .u32 0), (.int .u8 0), (.int .u8 0), (.int .u8 0), (.int .u8 0), .nilfn, .nilptr, (.int .i32 0), (.int .i32 0)]) := by kernel_rfl
theorem f131_0 : fieldOf Tryz.prog 131 0 = some (0, 12) := by kernel_rfl
theorem p131_0 : places Tryz.prog 131 0 = some (0, 1) := by kernel_rfl
theorem f131_1 : fieldOf Tryz.prog 131 1 = some (1, 12) := by kernel_rfl
theorem p131_1 : places Tryz.prog 131 1 = some (1, 1) := by kernel_rfl
theorem f131_2 : fieldOf Tryz.prog 131 2 = some (2, 106) := by kernel_rfl
theorem p131_2 : places Tryz.prog 131 2 = some (2, 1) := by kernel_rfl
theorem f131_3 : fieldOf Tryz.prog 131 3 = some (3, 125) := by kernel_rfl
theorem p131_3 : places Tryz.prog 131 3 = some (3, 1) := by kernel_rfl
theorem f131_4 : fieldOf Tryz.prog 131 4 = some (4, 5) := by kernel_rfl
theorem p131_4 : places Tryz.prog 131 4 = some (4, 1) := by kernel_rfl
theorem f131_5 : fieldOf Tryz.prog 131 5 = some (5, 5) := by kernel_rfl
theorem p131_5 : places Tryz.prog 131 5 = some (5, 1) := by kernel_rfl
theorem f131_6 : fieldOf Tryz.prog 131 6 = some (6, 126) := by kernel_rfl
theorem p131_6 : places Tryz.prog 131 6 = some (6, 1) := by kernel_rfl
theorem f131_7 : fieldOf Tryz.prog 131 7 = some (7, 127) := by kernel_rfl
theorem f131_8 : fieldOf Tryz.prog 131 8 = some (8, 128) := by kernel_rfl
theorem p131_8 : places Tryz.prog 131 8 = some (8, 1) := by kernel_rfl
theorem f131_9 : fieldOf Tryz.prog 131 9 = some (9, 129) := by kernel_rfl
theorem p131_9 : places Tryz.prog 131 9 = some (9, 1) := by kernel_rfl
theorem f131_10 : fieldOf Tryz.prog 131 10 = some (10, 130) := by kernel_rfl
theorem p131_10 : places Tryz.prog 131 10 = some (10, 1) := by kernel_rfl
theorem pu131 : partsU Tryz.prog 131 = true := by kernel_rfl
theorem c132 : Tryz.prog.cellsOf 132 = 11 := by kernel_rfl
theorem b132 : Tryz.prog.bytesOf 132 = 48 := by kernel_rfl
theorem a132 : aggT Tryz.prog 132 = true := by kernel_rfl
theorem us132 : (Tryz.prog.underlying 132).isSome = true := by kernel_rfl
theorem s132 : elemSl Tryz.prog 132 = none := by kernel_rfl
theorem ar132 : elemAr Tryz.prog 132 = none := by kernel_rfl
theorem z132 : zeroD Tryz.prog 132 = some (.agg [(.int .u64 0), (.int .u64 0), (.int .u32 0), (.int .u8 0), (.int .u8 0), (.int .u8 0), (.int .u8 0), .nilfn, .nilptr, (.int .i32 0), (.int .i32 0)]) := by kernel_rfl
theorem f132_0 : fieldOf Tryz.prog 132 0 = some (0, 12) := by kernel_rfl
theorem p132_0 : places Tryz.prog 132 0 = some (0, 1) := by kernel_rfl
theorem f132_1 : fieldOf Tryz.prog 132 1 = some (1, 12) := by kernel_rfl
theorem p132_1 : places Tryz.prog 132 1 = some (1, 1) := by kernel_rfl
theorem f132_2 : fieldOf Tryz.prog 132 2 = some (2, 106) := by kernel_rfl
theorem p132_2 : places Tryz.prog 132 2 = some (2, 1) := by kernel_rfl
theorem f132_3 : fieldOf Tryz.prog 132 3 = some (3, 125) := by kernel_rfl
theorem p132_3 : places Tryz.prog 132 3 = some (3, 1) := by kernel_rfl
theorem f132_4 : fieldOf Tryz.prog 132 4 = some (4, 5) := by kernel_rfl
theorem p132_4 : places Tryz.prog 132 4 = some (4, 1) := by kernel_rfl
theorem f132_5 : fieldOf Tryz.prog 132 5 = some (5, 5) := by kernel_rfl
theorem p132_5 : places Tryz.prog 132 5 = some (5, 1) := by kernel_rfl
theorem f132_6 : fieldOf Tryz.prog 132 6 = some (6, 126) := by kernel_rfl
theorem p132_6 : places Tryz.prog 132 6 = some (6, 1) := by kernel_rfl
theorem f132_7 : fieldOf Tryz.prog 132 7 = some (7, 127) := by kernel_rfl
theorem f132_8 : fieldOf Tryz.prog 132 8 = some (8, 128) := by kernel_rfl
theorem p132_8 : places Tryz.prog 132 8 = some (8, 1) := by kernel_rfl
theorem f132_9 : fieldOf Tryz.prog 132 9 = some (9, 129) := by kernel_rfl
theorem p132_9 : places Tryz.prog 132 9 = some (9, 1) := by kernel_rfl
theorem f132_10 : fieldOf Tryz.prog 132 10 = some (10, 130) := by kernel_rfl
theorem p132_10 : places Tryz.prog 132 10 = some (10, 1) := by kernel_rfl
theorem pu132 : partsU Tryz.prog 132 = true := by kernel_rfl
attribute [go_sem] c2 b2 a2 us2 s2 ar2 k2 z2 c3 b3 a3 us3 s3 ar3 k3 z3 c4 b4 a4 us4 s4 ar4 bo4 z4 c5 b5 a5 us5 s5 ar5 k5 z5 c6 b6 a6 us6 s6 ar6 k6 z6
attribute [go_sem] c7 b7 a7 us7 s7 ar7 z7 f7_0 p7_0 f7_1 p7_1 f7_2 p7_2 f7_3 p7_3 pu7 c8 b8 a8 us8 s8 ar8 z8 f8_0 p8_0 f8_1 p8_1 f8_2 p8_2 f8_3 p8_3 pu8 c9 b9 a9 us9 s9 ar9 st9 z9
attribute [go_sem] c10 b10 a10 us10 s10 ar10 st10 z10 c11 b11 a11 us11 s11 ar11 st11 z11 c12 b12 a12 us12 s12 ar12 k12 z12 c13 b13 a13 us13 s13 ar13 z13 f13_0 p13_0 f13_1 p13_1 pu13 c14 b14 a14 us14
attribute [go_sem] s14 ar14 z14 f14_0 p14_0 f14_1 p14_1 pu14 c15 b15 a15 us15 s15 ar15 z15 c16 b16 a16 us16 s16 ar16 z16 c17 b17 a17 us17 s17 ar17 z17 c18 b18 a18 us18 s18 ar18 z18 f18_0 p18_0 pu18 c19
attribute [go_sem] b19 a19 us19 s19 ar19 z19 f19_0 p19_0 pu19 c21 b21 a21 us21 s21 ar21 k21 z21 c22 b22 a22 us22 s22 ar22 z22 c23 b23 a23 us23 s23 ar23 z23 f23_0 p23_0 f23_1 p23_1 pu23 c24 b24 a24 us24
attribute [go_sem] s24 ar24 z24 f24_0 p24_0 f24_1 p24_1 pu24 c25 b25 a25 us25 s25 ar25 z25 c28 b28 a28 us28 s28 ar28 z28 c31 b31 a31 us31 s31 ar31 z31 f31_0 p31_0 f31_1 p31_1 pu31 c39 b39 a39 us39 s39 ar39
attribute [go_sem] z39 c46 b46 a46 us46 s46 ar46 z46 f46_0 p46_0 f46_1 p46_1 f46_2 p46_2 f46_3 p46_3 pu46 c47 b47 a47 us47 s47 ar47 z47 f47_0 p47_0 f47_1 p47_1 f47_2 p47_2 f47_3 p47_3 pu47 c49 b49 a49 us49 s49 ar49 z49
attribute [go_sem] f49_0 p49_0 f49_1 p49_1 f49_2 p49_2 f49_3 p49_3 pu49 c59 b59 a59 us59 s59 ar59 z59 c95 b95 a95 us95 s95 ar95 k95 z95 c98 b98 a98 us98 s98 ar98 k98 z98 c106 b106 a106 us106 s106 ar106 k106 z106
attribute [go_sem] c108 b108 a108 us108 s108 ar108 k108 z108 c109 b109 a109 us109 s109 ar109 k109 z109 c113 b113 a113 us113 s113 ar113 z113 c115 b115 a115 us115 s115 ar115 z115 c119 b119 a119 us119 s119 ar119 z119 f119_0 p119_0 f119_1
attribute [go_sem] p119_1 f119_2 p119_2 f119_3 p119_3 pu119 c120 b120 a120 us120 s120 ar120 z120 f120_0 p120_0 f120_1 p120_1 f120_2 p120_2 f120_3 p120_3 pu120 c121 b121 a121 us121 s121 ar121 z121 pu121 c122 b122 a122 us122 s122 ar122 z122 f122_0 p122_0 pu122
attribute [go_sem] c123 b123 a123 us123 s123 ar123 z123 f123_0 p123_0 pu123 c125 b125 a125 us125 s125 ar125 k125 z125 c126 b126 a126 us126 s126 ar126 k126 z126 c128 b128 a128 us128 s128 ar128 z128 c129 b129 a129 us129 s129 ar129 k129
attribute [go_sem] z129 c130 b130 a130 us130 s130 ar130 k130 z130 c131 b131 a131 us131 s131 ar131 z131 f131_0 p131_0 f131_1 p131_1 f131_2 p131_2 f131_3 p131_3 f131_4 p131_4 f131_5 p131_5 f131_6 p131_6 f131_7 f131_8 p131_8 f131_9 p131_9 f131_10 p131_10 pu131 c132 b132
attribute [go_sem] a132 us132 s132 ar132 z132 f132_0 p132_0 f132_1 p132_1 f132_2 p132_2 f132_3 p132_3 f132_4 p132_4 f132_5 p132_5 f132_6 p132_6 f132_7 f132_8 p132_8 f132_9 p132_9 f132_10 p132_10 pu132
end Abs.Y.Ty
