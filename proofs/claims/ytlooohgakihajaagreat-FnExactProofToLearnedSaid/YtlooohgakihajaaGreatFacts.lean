/- The facts on the types of this seat that the abstract walk asks for, by program. No condition. -/
import Derived.Test.YtlooohgakihajaaGreatAbsLib
import Derived.Test.YtlooohgakihajaaGreatAbsRow
import Derived.Test.YtlooohgakihajaaGreatChecked
set_option linter.all false
namespace Abs.Y.Ty
open Go Go.Proofs Abs
theorem c2 : Tryz.prog.cellsOf 2 = 1 := by kernel_rfl
theorem b2 : Tryz.prog.bytesOf 2 = 8 := by kernel_rfl
theorem a2 : aggT Tryz.prog 2 = false := by kernel_rfl
theorem us2 : (Tryz.prog.underlying 2).isSome = true := by kernel_rfl
theorem s2 : elemSl Tryz.prog 2 = none := by kernel_rfl
theorem ar2 : elemAr Tryz.prog 2 = none := by kernel_rfl
theorem k2 : Tryz.prog.underlying 2 = some (.int .i64) := by kernel_rfl
theorem z2 : zeroD Tryz.prog 2 = some (.int .i64 0) := by kernel_rfl
theorem c3 : Tryz.prog.cellsOf 3 = 1 := by kernel_rfl
theorem b3 : Tryz.prog.bytesOf 3 = 8 := by kernel_rfl
theorem a3 : aggT Tryz.prog 3 = false := by kernel_rfl
theorem us3 : (Tryz.prog.underlying 3).isSome = true := by kernel_rfl
theorem s3 : elemSl Tryz.prog 3 = none := by kernel_rfl
theorem ar3 : elemAr Tryz.prog 3 = none := by kernel_rfl
theorem k3 : Tryz.prog.underlying 3 = some (.int .i64) := by kernel_rfl
theorem z3 : zeroD Tryz.prog 3 = some (.int .i64 0) := by kernel_rfl
theorem c4 : Tryz.prog.cellsOf 4 = 1 := by kernel_rfl
theorem b4 : Tryz.prog.bytesOf 4 = 1 := by kernel_rfl
theorem a4 : aggT Tryz.prog 4 = false := by kernel_rfl
theorem us4 : (Tryz.prog.underlying 4).isSome = true := by kernel_rfl
theorem s4 : elemSl Tryz.prog 4 = none := by kernel_rfl
theorem ar4 : elemAr Tryz.prog 4 = none := by kernel_rfl
theorem bo4 : isBoolT Tryz.prog 4 = true := by kernel_rfl
theorem z4 : zeroD Tryz.prog 4 = some (.bool false) := by kernel_rfl
theorem c5 : Tryz.prog.cellsOf 5 = 1 := by kernel_rfl
theorem b5 : Tryz.prog.bytesOf 5 = 1 := by kernel_rfl
theorem a5 : aggT Tryz.prog 5 = false := by kernel_rfl
theorem us5 : (Tryz.prog.underlying 5).isSome = true := by kernel_rfl
theorem s5 : elemSl Tryz.prog 5 = none := by kernel_rfl
theorem ar5 : elemAr Tryz.prog 5 = none := by kernel_rfl
theorem k5 : Tryz.prog.underlying 5 = some (.int .u8) := by kernel_rfl
theorem z5 : zeroD Tryz.prog 5 = some (.int .u8 0) := by kernel_rfl
theorem c6 : Tryz.prog.cellsOf 6 = 1 := by kernel_rfl
theorem b6 : Tryz.prog.bytesOf 6 = 1 := by kernel_rfl
theorem a6 : aggT Tryz.prog 6 = false := by kernel_rfl
theorem us6 : (Tryz.prog.underlying 6).isSome = true := by kernel_rfl
theorem s6 : elemSl Tryz.prog 6 = none := by kernel_rfl
theorem ar6 : elemAr Tryz.prog 6 = none := by kernel_rfl
theorem k6 : Tryz.prog.underlying 6 = some (.int .u8) := by kernel_rfl
theorem z6 : zeroD Tryz.prog 6 = some (.int .u8 0) := by kernel_rfl
theorem c7 : Tryz.prog.cellsOf 7 = 4 := by kernel_rfl
theorem b7 : Tryz.prog.bytesOf 7 = 24 := by kernel_rfl
theorem a7 : aggT Tryz.prog 7 = true := by kernel_rfl
theorem us7 : (Tryz.prog.underlying 7).isSome = true := by kernel_rfl
theorem s7 : elemSl Tryz.prog 7 = none := by kernel_rfl
theorem ar7 : elemAr Tryz.prog 7 = none := by kernel_rfl
theorem z7 : zeroD Tryz.prog 7 = some (.agg [(.int .i64 0), (.int .i64 0), (.bool false), (.int .u8 0)]) := by kernel_rfl
theorem f7_0 : fieldOf Tryz.prog 7 0 = some (0, 2) := by kernel_rfl
theorem p7_0 : places Tryz.prog 7 0 = some (0, 1) := by kernel_rfl
theorem f7_1 : fieldOf Tryz.prog 7 1 = some (1, 3) := by kernel_rfl
theorem p7_1 : places Tryz.prog 7 1 = some (1, 1) := by kernel_rfl
theorem f7_2 : fieldOf Tryz.prog 7 2 = some (2, 4) := by kernel_rfl
theorem p7_2 : places Tryz.prog 7 2 = some (2, 1) := by kernel_rfl
theorem f7_3 : fieldOf Tryz.prog 7 3 = some (3, 6) := by kernel_rfl
theorem p7_3 : places Tryz.prog 7 3 = some (3, 1) := by kernel_rfl
theorem pu7 : partsU Tryz.prog 7 = true := by kernel_rfl
theorem c8 : Tryz.prog.cellsOf 8 = 4 := by kernel_rfl
theorem b8 : Tryz.prog.bytesOf 8 = 24 := by kernel_rfl
theorem a8 : aggT Tryz.prog 8 = true := by kernel_rfl
theorem us8 : (Tryz.prog.underlying 8).isSome = true := by kernel_rfl
theorem s8 : elemSl Tryz.prog 8 = none := by kernel_rfl
theorem ar8 : elemAr Tryz.prog 8 = none := by kernel_rfl
theorem z8 : zeroD Tryz.prog 8 = some (.agg [(.int .i64 0), (.int .i64 0), (.bool false), (.int .u8 0)]) := by kernel_rfl
theorem f8_0 : fieldOf Tryz.prog 8 0 = some (0, 2) := by kernel_rfl
theorem p8_0 : places Tryz.prog 8 0 = some (0, 1) := by kernel_rfl
theorem f8_1 : fieldOf Tryz.prog 8 1 = some (1, 3) := by kernel_rfl
theorem p8_1 : places Tryz.prog 8 1 = some (1, 1) := by kernel_rfl
theorem f8_2 : fieldOf Tryz.prog 8 2 = some (2, 4) := by kernel_rfl
theorem p8_2 : places Tryz.prog 8 2 = some (2, 1) := by kernel_rfl
theorem f8_3 : fieldOf Tryz.prog 8 3 = some (3, 6) := by kernel_rfl
theorem p8_3 : places Tryz.prog 8 3 = some (3, 1) := by kernel_rfl
theorem pu8 : partsU Tryz.prog 8 = true := by kernel_rfl
theorem c9 : Tryz.prog.cellsOf 9 = 1 := by kernel_rfl
theorem b9 : Tryz.prog.bytesOf 9 = 16 := by kernel_rfl
theorem a9 : aggT Tryz.prog 9 = false := by kernel_rfl
theorem us9 : (Tryz.prog.underlying 9).isSome = true := by kernel_rfl
theorem s9 : elemSl Tryz.prog 9 = none := by kernel_rfl
theorem ar9 : elemAr Tryz.prog 9 = none := by kernel_rfl
theorem st9 : isStrT Tryz.prog 9 = true := by kernel_rfl
theorem z9 : zeroD Tryz.prog 9 = some (.str ByteArray.empty) := by kernel_rfl
theorem c10 : Tryz.prog.cellsOf 10 = 1 := by kernel_rfl
theorem b10 : Tryz.prog.bytesOf 10 = 16 := by kernel_rfl
theorem a10 : aggT Tryz.prog 10 = false := by kernel_rfl
theorem us10 : (Tryz.prog.underlying 10).isSome = true := by kernel_rfl
theorem s10 : elemSl Tryz.prog 10 = none := by kernel_rfl
theorem ar10 : elemAr Tryz.prog 10 = none := by kernel_rfl
theorem st10 : isStrT Tryz.prog 10 = true := by kernel_rfl
theorem z10 : zeroD Tryz.prog 10 = some (.str ByteArray.empty) := by kernel_rfl
theorem c11 : Tryz.prog.cellsOf 11 = 1 := by kernel_rfl
theorem b11 : Tryz.prog.bytesOf 11 = 16 := by kernel_rfl
theorem a11 : aggT Tryz.prog 11 = false := by kernel_rfl
theorem us11 : (Tryz.prog.underlying 11).isSome = true := by kernel_rfl
theorem s11 : elemSl Tryz.prog 11 = none := by kernel_rfl
theorem ar11 : elemAr Tryz.prog 11 = none := by kernel_rfl
theorem st11 : isStrT Tryz.prog 11 = true := by kernel_rfl
theorem z11 : zeroD Tryz.prog 11 = some (.str ByteArray.empty) := by kernel_rfl
theorem c12 : Tryz.prog.cellsOf 12 = 1 := by kernel_rfl
theorem b12 : Tryz.prog.bytesOf 12 = 8 := by kernel_rfl
theorem a12 : aggT Tryz.prog 12 = false := by kernel_rfl
theorem us12 : (Tryz.prog.underlying 12).isSome = true := by kernel_rfl
theorem s12 : elemSl Tryz.prog 12 = none := by kernel_rfl
theorem ar12 : elemAr Tryz.prog 12 = none := by kernel_rfl
theorem k12 : Tryz.prog.underlying 12 = some (.int .u64) := by kernel_rfl
theorem z12 : zeroD Tryz.prog 12 = some (.int .u64 0) := by kernel_rfl
theorem c13 : Tryz.prog.cellsOf 13 = 2 := by kernel_rfl
theorem b13 : Tryz.prog.bytesOf 13 = 24 := by kernel_rfl
theorem a13 : aggT Tryz.prog 13 = true := by kernel_rfl
theorem us13 : (Tryz.prog.underlying 13).isSome = true := by kernel_rfl
theorem s13 : elemSl Tryz.prog 13 = none := by kernel_rfl
theorem ar13 : elemAr Tryz.prog 13 = none := by kernel_rfl
theorem z13 : zeroD Tryz.prog 13 = some (.agg [(.str ByteArray.empty), (.int .u64 0)]) := by kernel_rfl
theorem f13_0 : fieldOf Tryz.prog 13 0 = some (0, 9) := by kernel_rfl
theorem p13_0 : places Tryz.prog 13 0 = some (0, 1) := by kernel_rfl
theorem f13_1 : fieldOf Tryz.prog 13 1 = some (1, 12) := by kernel_rfl
theorem p13_1 : places Tryz.prog 13 1 = some (1, 1) := by kernel_rfl
theorem pu13 : partsU Tryz.prog 13 = true := by kernel_rfl
theorem c14 : Tryz.prog.cellsOf 14 = 2 := by kernel_rfl
theorem b14 : Tryz.prog.bytesOf 14 = 24 := by kernel_rfl
theorem a14 : aggT Tryz.prog 14 = true := by kernel_rfl
theorem us14 : (Tryz.prog.underlying 14).isSome = true := by kernel_rfl
theorem s14 : elemSl Tryz.prog 14 = none := by kernel_rfl
theorem ar14 : elemAr Tryz.prog 14 = none := by kernel_rfl
theorem z14 : zeroD Tryz.prog 14 = some (.agg [(.str ByteArray.empty), (.int .u64 0)]) := by kernel_rfl
theorem f14_0 : fieldOf Tryz.prog 14 0 = some (0, 9) := by kernel_rfl
theorem p14_0 : places Tryz.prog 14 0 = some (0, 1) := by kernel_rfl
theorem f14_1 : fieldOf Tryz.prog 14 1 = some (1, 12) := by kernel_rfl
theorem p14_1 : places Tryz.prog 14 1 = some (1, 1) := by kernel_rfl
theorem pu14 : partsU Tryz.prog 14 = true := by kernel_rfl
theorem c15 : Tryz.prog.cellsOf 15 = 1 := by kernel_rfl
theorem b15 : Tryz.prog.bytesOf 15 = 8 := by kernel_rfl
theorem a15 : aggT Tryz.prog 15 = false := by kernel_rfl
theorem us15 : (Tryz.prog.underlying 15).isSome = true := by kernel_rfl
theorem s15 : elemSl Tryz.prog 15 = none := by kernel_rfl
theorem ar15 : elemAr Tryz.prog 15 = none := by kernel_rfl
theorem z15 : zeroD Tryz.prog 15 = some .nilptr := by kernel_rfl
theorem c16 : Tryz.prog.cellsOf 16 = 1 := by kernel_rfl
theorem b16 : Tryz.prog.bytesOf 16 = 8 := by kernel_rfl
theorem a16 : aggT Tryz.prog 16 = false := by kernel_rfl
theorem us16 : (Tryz.prog.underlying 16).isSome = true := by kernel_rfl
theorem s16 : elemSl Tryz.prog 16 = none := by kernel_rfl
theorem ar16 : elemAr Tryz.prog 16 = none := by kernel_rfl
theorem z16 : zeroD Tryz.prog 16 = some .nilptr := by kernel_rfl
theorem c17 : Tryz.prog.cellsOf 17 = 1 := by kernel_rfl
theorem b17 : Tryz.prog.bytesOf 17 = 8 := by kernel_rfl
theorem a17 : aggT Tryz.prog 17 = false := by kernel_rfl
theorem us17 : (Tryz.prog.underlying 17).isSome = true := by kernel_rfl
theorem s17 : elemSl Tryz.prog 17 = none := by kernel_rfl
theorem ar17 : elemAr Tryz.prog 17 = none := by kernel_rfl
theorem z17 : zeroD Tryz.prog 17 = some .nilptr := by kernel_rfl
theorem c18 : Tryz.prog.cellsOf 18 = 1 := by kernel_rfl
theorem b18 : Tryz.prog.bytesOf 18 = 8 := by kernel_rfl
theorem a18 : aggT Tryz.prog 18 = true := by kernel_rfl
theorem us18 : (Tryz.prog.underlying 18).isSome = true := by kernel_rfl
theorem s18 : elemSl Tryz.prog 18 = none := by kernel_rfl
theorem ar18 : elemAr Tryz.prog 18 = none := by kernel_rfl
theorem z18 : zeroD Tryz.prog 18 = some (.agg [.nilptr]) := by kernel_rfl
theorem f18_0 : fieldOf Tryz.prog 18 0 = some (0, 17) := by kernel_rfl
theorem p18_0 : places Tryz.prog 18 0 = some (0, 1) := by kernel_rfl
theorem pu18 : partsU Tryz.prog 18 = true := by kernel_rfl
theorem c19 : Tryz.prog.cellsOf 19 = 1 := by kernel_rfl
theorem b19 : Tryz.prog.bytesOf 19 = 8 := by kernel_rfl
theorem a19 : aggT Tryz.prog 19 = true := by kernel_rfl
theorem us19 : (Tryz.prog.underlying 19).isSome = true := by kernel_rfl
theorem s19 : elemSl Tryz.prog 19 = none := by kernel_rfl
theorem ar19 : elemAr Tryz.prog 19 = none := by kernel_rfl
theorem z19 : zeroD Tryz.prog 19 = some (.agg [.nilptr]) := by kernel_rfl
theorem f19_0 : fieldOf Tryz.prog 19 0 = some (0, 17) := by kernel_rfl
theorem p19_0 : places Tryz.prog 19 0 = some (0, 1) := by kernel_rfl
theorem pu19 : partsU Tryz.prog 19 = true := by kernel_rfl
theorem c21 : Tryz.prog.cellsOf 21 = 1 := by kernel_rfl
theorem b21 : Tryz.prog.bytesOf 21 = 4 := by kernel_rfl
theorem a21 : aggT Tryz.prog 21 = false := by kernel_rfl
theorem us21 : (Tryz.prog.underlying 21).isSome = true := by kernel_rfl
theorem s21 : elemSl Tryz.prog 21 = none := by kernel_rfl
theorem ar21 : elemAr Tryz.prog 21 = none := by kernel_rfl
theorem k21 : Tryz.prog.underlying 21 = some (.int .i32) := by kernel_rfl
theorem z21 : zeroD Tryz.prog 21 = some (.int .i32 0) := by kernel_rfl
theorem c22 : Tryz.prog.cellsOf 22 = 1 := by kernel_rfl
theorem b22 : Tryz.prog.bytesOf 22 = 24 := by kernel_rfl
theorem a22 : aggT Tryz.prog 22 = false := by kernel_rfl
theorem us22 : (Tryz.prog.underlying 22).isSome = true := by kernel_rfl
theorem s22 : elemSl Tryz.prog 22 = some 28 := by kernel_rfl
theorem ar22 : elemAr Tryz.prog 22 = none := by kernel_rfl
theorem z22 : zeroD Tryz.prog 22 = some (.slice []) := by kernel_rfl
theorem c23 : Tryz.prog.cellsOf 23 = 2 := by kernel_rfl
theorem b23 : Tryz.prog.bytesOf 23 = 32 := by kernel_rfl
theorem a23 : aggT Tryz.prog 23 = true := by kernel_rfl
theorem us23 : (Tryz.prog.underlying 23).isSome = true := by kernel_rfl
theorem s23 : elemSl Tryz.prog 23 = none := by kernel_rfl
theorem ar23 : elemAr Tryz.prog 23 = none := by kernel_rfl
theorem z23 : zeroD Tryz.prog 23 = some (.agg [(.int .i64 0), (.slice [])]) := by kernel_rfl
theorem f23_0 : fieldOf Tryz.prog 23 0 = some (0, 3) := by kernel_rfl
theorem p23_0 : places Tryz.prog 23 0 = some (0, 1) := by kernel_rfl
theorem f23_1 : fieldOf Tryz.prog 23 1 = some (1, 22) := by kernel_rfl
theorem p23_1 : places Tryz.prog 23 1 = some (1, 1) := by kernel_rfl
theorem pu23 : partsU Tryz.prog 23 = true := by kernel_rfl
theorem c24 : Tryz.prog.cellsOf 24 = 2 := by kernel_rfl
theorem b24 : Tryz.prog.bytesOf 24 = 32 := by kernel_rfl
theorem a24 : aggT Tryz.prog 24 = true := by kernel_rfl
theorem us24 : (Tryz.prog.underlying 24).isSome = true := by kernel_rfl
theorem s24 : elemSl Tryz.prog 24 = none := by kernel_rfl
theorem ar24 : elemAr Tryz.prog 24 = none := by kernel_rfl
theorem z24 : zeroD Tryz.prog 24 = some (.agg [(.int .i64 0), (.slice [])]) := by kernel_rfl
theorem f24_0 : fieldOf Tryz.prog 24 0 = some (0, 3) := by kernel_rfl
theorem p24_0 : places Tryz.prog 24 0 = some (0, 1) := by kernel_rfl
theorem f24_1 : fieldOf Tryz.prog 24 1 = some (1, 22) := by kernel_rfl
theorem p24_1 : places Tryz.prog 24 1 = some (1, 1) := by kernel_rfl
theorem pu24 : partsU Tryz.prog 24 = true := by kernel_rfl
theorem c25 : Tryz.prog.cellsOf 25 = 1 := by kernel_rfl
theorem b25 : Tryz.prog.bytesOf 25 = 24 := by kernel_rfl
theorem a25 : aggT Tryz.prog 25 = false := by kernel_rfl
theorem us25 : (Tryz.prog.underlying 25).isSome = true := by kernel_rfl
theorem s25 : elemSl Tryz.prog 25 = some 58 := by kernel_rfl
theorem ar25 : elemAr Tryz.prog 25 = none := by kernel_rfl
theorem z25 : zeroD Tryz.prog 25 = some (.slice []) := by kernel_rfl
theorem c28 : Tryz.prog.cellsOf 28 = 1 := by kernel_rfl
theorem b28 : Tryz.prog.bytesOf 28 = 24 := by kernel_rfl
theorem a28 : aggT Tryz.prog 28 = false := by kernel_rfl
theorem us28 : (Tryz.prog.underlying 28).isSome = true := by kernel_rfl
theorem s28 : elemSl Tryz.prog 28 = some 3 := by kernel_rfl
theorem ar28 : elemAr Tryz.prog 28 = none := by kernel_rfl
theorem z28 : zeroD Tryz.prog 28 = some (.slice []) := by kernel_rfl
theorem c31 : Tryz.prog.cellsOf 31 = 2 := by kernel_rfl
theorem b31 : Tryz.prog.bytesOf 31 = 32 := by kernel_rfl
theorem a31 : aggT Tryz.prog 31 = true := by kernel_rfl
theorem us31 : (Tryz.prog.underlying 31).isSome = true := by kernel_rfl
theorem s31 : elemSl Tryz.prog 31 = none := by kernel_rfl
theorem ar31 : elemAr Tryz.prog 31 = none := by kernel_rfl
theorem z31 : zeroD Tryz.prog 31 = some (.agg [(.int .i64 0), (.slice [])]) := by kernel_rfl
theorem f31_0 : fieldOf Tryz.prog 31 0 = some (0, 3) := by kernel_rfl
theorem p31_0 : places Tryz.prog 31 0 = some (0, 1) := by kernel_rfl
theorem f31_1 : fieldOf Tryz.prog 31 1 = some (1, 22) := by kernel_rfl
theorem p31_1 : places Tryz.prog 31 1 = some (1, 1) := by kernel_rfl
theorem pu31 : partsU Tryz.prog 31 = true := by kernel_rfl
theorem c33 : Tryz.prog.cellsOf 33 = 1 := by kernel_rfl
theorem b33 : Tryz.prog.bytesOf 33 = 24 := by kernel_rfl
theorem a33 : aggT Tryz.prog 33 = false := by kernel_rfl
theorem us33 : (Tryz.prog.underlying 33).isSome = true := by kernel_rfl
theorem s33 : elemSl Tryz.prog 33 = some 62 := by kernel_rfl
theorem ar33 : elemAr Tryz.prog 33 = none := by kernel_rfl
theorem z33 : zeroD Tryz.prog 33 = some (.slice []) := by kernel_rfl
theorem c48 : Tryz.prog.cellsOf 48 = 1 := by kernel_rfl
theorem b48 : Tryz.prog.bytesOf 48 = 24 := by kernel_rfl
theorem a48 : aggT Tryz.prog 48 = false := by kernel_rfl
theorem us48 : (Tryz.prog.underlying 48).isSome = true := by kernel_rfl
theorem s48 : elemSl Tryz.prog 48 = some 87 := by kernel_rfl
theorem ar48 : elemAr Tryz.prog 48 = none := by kernel_rfl
theorem z48 : zeroD Tryz.prog 48 = some (.slice []) := by kernel_rfl
theorem c52 : Tryz.prog.cellsOf 52 = 1 := by kernel_rfl
theorem b52 : Tryz.prog.bytesOf 52 = 24 := by kernel_rfl
theorem a52 : aggT Tryz.prog 52 = false := by kernel_rfl
theorem us52 : (Tryz.prog.underlying 52).isSome = true := by kernel_rfl
theorem s52 : elemSl Tryz.prog 52 = some 85 := by kernel_rfl
theorem ar52 : elemAr Tryz.prog 52 = none := by kernel_rfl
theorem z52 : zeroD Tryz.prog 52 = some (.slice []) := by kernel_rfl
theorem c57 : Tryz.prog.cellsOf 57 = 4 := by kernel_rfl
theorem b57 : Tryz.prog.bytesOf 57 = 48 := by kernel_rfl
theorem a57 : aggT Tryz.prog 57 = true := by kernel_rfl
theorem us57 : (Tryz.prog.underlying 57).isSome = true := by kernel_rfl
theorem s57 : elemSl Tryz.prog 57 = none := by kernel_rfl
theorem ar57 : elemAr Tryz.prog 57 = none := by kernel_rfl
theorem z57 : zeroD Tryz.prog 57 = some (.agg [(.slice []), (.int .i64 0), (.int .i64 0), (.int .i64 0)]) := by kernel_rfl
theorem f57_0 : fieldOf Tryz.prog 57 0 = some (0, 28) := by kernel_rfl
theorem p57_0 : places Tryz.prog 57 0 = some (0, 1) := by kernel_rfl
theorem f57_1 : fieldOf Tryz.prog 57 1 = some (1, 3) := by kernel_rfl
theorem p57_1 : places Tryz.prog 57 1 = some (1, 1) := by kernel_rfl
theorem f57_2 : fieldOf Tryz.prog 57 2 = some (2, 3) := by kernel_rfl
theorem p57_2 : places Tryz.prog 57 2 = some (2, 1) := by kernel_rfl
theorem f57_3 : fieldOf Tryz.prog 57 3 = some (3, 3) := by kernel_rfl
theorem p57_3 : places Tryz.prog 57 3 = some (3, 1) := by kernel_rfl
theorem pu57 : partsU Tryz.prog 57 = true := by kernel_rfl
theorem c58 : Tryz.prog.cellsOf 58 = 4 := by kernel_rfl
theorem b58 : Tryz.prog.bytesOf 58 = 48 := by kernel_rfl
theorem a58 : aggT Tryz.prog 58 = true := by kernel_rfl
theorem us58 : (Tryz.prog.underlying 58).isSome = true := by kernel_rfl
theorem s58 : elemSl Tryz.prog 58 = none := by kernel_rfl
theorem ar58 : elemAr Tryz.prog 58 = none := by kernel_rfl
theorem z58 : zeroD Tryz.prog 58 = some (.agg [(.slice []), (.int .i64 0), (.int .i64 0), (.int .i64 0)]) := by kernel_rfl
theorem f58_0 : fieldOf Tryz.prog 58 0 = some (0, 28) := by kernel_rfl
theorem p58_0 : places Tryz.prog 58 0 = some (0, 1) := by kernel_rfl
theorem f58_1 : fieldOf Tryz.prog 58 1 = some (1, 3) := by kernel_rfl
theorem p58_1 : places Tryz.prog 58 1 = some (1, 1) := by kernel_rfl
theorem f58_2 : fieldOf Tryz.prog 58 2 = some (2, 3) := by kernel_rfl
theorem p58_2 : places Tryz.prog 58 2 = some (2, 1) := by kernel_rfl
theorem f58_3 : fieldOf Tryz.prog 58 3 = some (3, 3) := by kernel_rfl
theorem p58_3 : places Tryz.prog 58 3 = some (3, 1) := by kernel_rfl
theorem pu58 : partsU Tryz.prog 58 = true := by kernel_rfl
theorem c62 : Tryz.prog.cellsOf 62 = 4 := by kernel_rfl
theorem b62 : Tryz.prog.bytesOf 62 = 48 := by kernel_rfl
theorem a62 : aggT Tryz.prog 62 = true := by kernel_rfl
theorem us62 : (Tryz.prog.underlying 62).isSome = true := by kernel_rfl
theorem s62 : elemSl Tryz.prog 62 = none := by kernel_rfl
theorem ar62 : elemAr Tryz.prog 62 = none := by kernel_rfl
theorem z62 : zeroD Tryz.prog 62 = some (.agg [(.slice []), (.int .i64 0), (.int .i64 0), (.int .i64 0)]) := by kernel_rfl
theorem f62_0 : fieldOf Tryz.prog 62 0 = some (0, 28) := by kernel_rfl
theorem p62_0 : places Tryz.prog 62 0 = some (0, 1) := by kernel_rfl
theorem f62_1 : fieldOf Tryz.prog 62 1 = some (1, 3) := by kernel_rfl
theorem p62_1 : places Tryz.prog 62 1 = some (1, 1) := by kernel_rfl
theorem f62_2 : fieldOf Tryz.prog 62 2 = some (2, 3) := by kernel_rfl
theorem p62_2 : places Tryz.prog 62 2 = some (2, 1) := by kernel_rfl
theorem f62_3 : fieldOf Tryz.prog 62 3 = some (3, 3) := by kernel_rfl
theorem p62_3 : places Tryz.prog 62 3 = some (3, 1) := by kernel_rfl
theorem pu62 : partsU Tryz.prog 62 = true := by kernel_rfl
theorem c70 : Tryz.prog.cellsOf 70 = 1 := by kernel_rfl
theorem b70 : Tryz.prog.bytesOf 70 = 24 := by kernel_rfl
theorem a70 : aggT Tryz.prog 70 = false := by kernel_rfl
theorem us70 : (Tryz.prog.underlying 70).isSome = true := by kernel_rfl
theorem s70 : elemSl Tryz.prog 70 = some 4 := by kernel_rfl
theorem ar70 : elemAr Tryz.prog 70 = none := by kernel_rfl
theorem z70 : zeroD Tryz.prog 70 = some (.slice []) := by kernel_rfl
theorem c81 : Tryz.prog.cellsOf 81 = 4 := by kernel_rfl
theorem b81 : Tryz.prog.bytesOf 81 = 64 := by kernel_rfl
theorem a81 : aggT Tryz.prog 81 = true := by kernel_rfl
theorem us81 : (Tryz.prog.underlying 81).isSome = true := by kernel_rfl
theorem s81 : elemSl Tryz.prog 81 = none := by kernel_rfl
theorem ar81 : elemAr Tryz.prog 81 = none := by kernel_rfl
theorem z81 : zeroD Tryz.prog 81 = some (.agg [(.slice []), (.int .i64 0), (.slice []), (.bool false)]) := by kernel_rfl
theorem f81_0 : fieldOf Tryz.prog 81 0 = some (0, 22) := by kernel_rfl
theorem p81_0 : places Tryz.prog 81 0 = some (0, 1) := by kernel_rfl
theorem f81_1 : fieldOf Tryz.prog 81 1 = some (1, 3) := by kernel_rfl
theorem p81_1 : places Tryz.prog 81 1 = some (1, 1) := by kernel_rfl
theorem f81_2 : fieldOf Tryz.prog 81 2 = some (2, 22) := by kernel_rfl
theorem p81_2 : places Tryz.prog 81 2 = some (2, 1) := by kernel_rfl
theorem f81_3 : fieldOf Tryz.prog 81 3 = some (3, 4) := by kernel_rfl
theorem p81_3 : places Tryz.prog 81 3 = some (3, 1) := by kernel_rfl
theorem pu81 : partsU Tryz.prog 81 = true := by kernel_rfl
theorem c82 : Tryz.prog.cellsOf 82 = 4 := by kernel_rfl
theorem b82 : Tryz.prog.bytesOf 82 = 64 := by kernel_rfl
theorem a82 : aggT Tryz.prog 82 = true := by kernel_rfl
theorem us82 : (Tryz.prog.underlying 82).isSome = true := by kernel_rfl
theorem s82 : elemSl Tryz.prog 82 = none := by kernel_rfl
theorem ar82 : elemAr Tryz.prog 82 = none := by kernel_rfl
theorem z82 : zeroD Tryz.prog 82 = some (.agg [(.slice []), (.int .i64 0), (.slice []), (.bool false)]) := by kernel_rfl
theorem f82_0 : fieldOf Tryz.prog 82 0 = some (0, 22) := by kernel_rfl
theorem p82_0 : places Tryz.prog 82 0 = some (0, 1) := by kernel_rfl
theorem f82_1 : fieldOf Tryz.prog 82 1 = some (1, 3) := by kernel_rfl
theorem p82_1 : places Tryz.prog 82 1 = some (1, 1) := by kernel_rfl
theorem f82_2 : fieldOf Tryz.prog 82 2 = some (2, 22) := by kernel_rfl
theorem p82_2 : places Tryz.prog 82 2 = some (2, 1) := by kernel_rfl
theorem f82_3 : fieldOf Tryz.prog 82 3 = some (3, 4) := by kernel_rfl
theorem p82_3 : places Tryz.prog 82 3 = some (3, 1) := by kernel_rfl
theorem pu82 : partsU Tryz.prog 82 = true := by kernel_rfl
theorem c84 : Tryz.prog.cellsOf 84 = 4 := by kernel_rfl
theorem b84 : Tryz.prog.bytesOf 84 = 32 := by kernel_rfl
theorem a84 : aggT Tryz.prog 84 = true := by kernel_rfl
theorem us84 : (Tryz.prog.underlying 84).isSome = true := by kernel_rfl
theorem s84 : elemSl Tryz.prog 84 = none := by kernel_rfl
theorem ar84 : elemAr Tryz.prog 84 = none := by kernel_rfl
theorem z84 : zeroD Tryz.prog 84 = some (.agg [(.int .i64 0), (.int .i64 0), (.int .i64 0), (.int .i64 0)]) := by kernel_rfl
theorem f84_0 : fieldOf Tryz.prog 84 0 = some (0, 3) := by kernel_rfl
theorem p84_0 : places Tryz.prog 84 0 = some (0, 1) := by kernel_rfl
theorem f84_1 : fieldOf Tryz.prog 84 1 = some (1, 3) := by kernel_rfl
theorem p84_1 : places Tryz.prog 84 1 = some (1, 1) := by kernel_rfl
theorem f84_2 : fieldOf Tryz.prog 84 2 = some (2, 3) := by kernel_rfl
theorem p84_2 : places Tryz.prog 84 2 = some (2, 1) := by kernel_rfl
theorem f84_3 : fieldOf Tryz.prog 84 3 = some (3, 3) := by kernel_rfl
theorem p84_3 : places Tryz.prog 84 3 = some (3, 1) := by kernel_rfl
theorem pu84 : partsU Tryz.prog 84 = true := by kernel_rfl
theorem c85 : Tryz.prog.cellsOf 85 = 4 := by kernel_rfl
theorem b85 : Tryz.prog.bytesOf 85 = 32 := by kernel_rfl
theorem a85 : aggT Tryz.prog 85 = true := by kernel_rfl
theorem us85 : (Tryz.prog.underlying 85).isSome = true := by kernel_rfl
theorem s85 : elemSl Tryz.prog 85 = none := by kernel_rfl
theorem ar85 : elemAr Tryz.prog 85 = none := by kernel_rfl
theorem z85 : zeroD Tryz.prog 85 = some (.agg [(.int .i64 0), (.int .i64 0), (.int .i64 0), (.int .i64 0)]) := by kernel_rfl
theorem f85_0 : fieldOf Tryz.prog 85 0 = some (0, 3) := by kernel_rfl
theorem p85_0 : places Tryz.prog 85 0 = some (0, 1) := by kernel_rfl
theorem f85_1 : fieldOf Tryz.prog 85 1 = some (1, 3) := by kernel_rfl
theorem p85_1 : places Tryz.prog 85 1 = some (1, 1) := by kernel_rfl
theorem f85_2 : fieldOf Tryz.prog 85 2 = some (2, 3) := by kernel_rfl
theorem p85_2 : places Tryz.prog 85 2 = some (2, 1) := by kernel_rfl
theorem f85_3 : fieldOf Tryz.prog 85 3 = some (3, 3) := by kernel_rfl
theorem p85_3 : places Tryz.prog 85 3 = some (3, 1) := by kernel_rfl
theorem pu85 : partsU Tryz.prog 85 = true := by kernel_rfl
theorem c87 : Tryz.prog.cellsOf 87 = 4 := by kernel_rfl
theorem b87 : Tryz.prog.bytesOf 87 = 32 := by kernel_rfl
theorem a87 : aggT Tryz.prog 87 = true := by kernel_rfl
theorem us87 : (Tryz.prog.underlying 87).isSome = true := by kernel_rfl
theorem s87 : elemSl Tryz.prog 87 = none := by kernel_rfl
theorem ar87 : elemAr Tryz.prog 87 = none := by kernel_rfl
theorem z87 : zeroD Tryz.prog 87 = some (.agg [(.int .i64 0), (.int .i64 0), (.int .i64 0), (.int .i64 0)]) := by kernel_rfl
theorem f87_0 : fieldOf Tryz.prog 87 0 = some (0, 3) := by kernel_rfl
theorem p87_0 : places Tryz.prog 87 0 = some (0, 1) := by kernel_rfl
theorem f87_1 : fieldOf Tryz.prog 87 1 = some (1, 3) := by kernel_rfl
theorem p87_1 : places Tryz.prog 87 1 = some (1, 1) := by kernel_rfl
theorem f87_2 : fieldOf Tryz.prog 87 2 = some (2, 3) := by kernel_rfl
theorem p87_2 : places Tryz.prog 87 2 = some (2, 1) := by kernel_rfl
theorem f87_3 : fieldOf Tryz.prog 87 3 = some (3, 3) := by kernel_rfl
theorem p87_3 : places Tryz.prog 87 3 = some (3, 1) := by kernel_rfl
theorem pu87 : partsU Tryz.prog 87 = true := by kernel_rfl
theorem c88 : Tryz.prog.cellsOf 88 = 1 := by kernel_rfl
theorem b88 : Tryz.prog.bytesOf 88 = 24 := by kernel_rfl
theorem a88 : aggT Tryz.prog 88 = false := by kernel_rfl
theorem us88 : (Tryz.prog.underlying 88).isSome = true := by kernel_rfl
theorem s88 : elemSl Tryz.prog 88 = some 106 := by kernel_rfl
theorem ar88 : elemAr Tryz.prog 88 = none := by kernel_rfl
theorem z88 : zeroD Tryz.prog 88 = some (.slice []) := by kernel_rfl
theorem c106 : Tryz.prog.cellsOf 106 = 1 := by kernel_rfl
theorem b106 : Tryz.prog.bytesOf 106 = 24 := by kernel_rfl
theorem a106 : aggT Tryz.prog 106 = false := by kernel_rfl
theorem us106 : (Tryz.prog.underlying 106).isSome = true := by kernel_rfl
theorem s106 : elemSl Tryz.prog 106 = some 28 := by kernel_rfl
theorem ar106 : elemAr Tryz.prog 106 = none := by kernel_rfl
theorem z106 : zeroD Tryz.prog 106 = some (.slice []) := by kernel_rfl
theorem c134 : Tryz.prog.cellsOf 134 = 1 := by kernel_rfl
theorem b134 : Tryz.prog.bytesOf 134 = 8 := by kernel_rfl
theorem a134 : aggT Tryz.prog 134 = false := by kernel_rfl
theorem us134 : (Tryz.prog.underlying 134).isSome = true := by kernel_rfl
theorem s134 : elemSl Tryz.prog 134 = none := by kernel_rfl
theorem ar134 : elemAr Tryz.prog 134 = none := by kernel_rfl
theorem k134 : Tryz.prog.underlying 134 = some (.int .u64) := by kernel_rfl
theorem z134 : zeroD Tryz.prog 134 = some (.int .u64 0) := by kernel_rfl
theorem c141 : Tryz.prog.cellsOf 141 = 1 := by kernel_rfl
theorem b141 : Tryz.prog.bytesOf 141 = 8 := by kernel_rfl
theorem a141 : aggT Tryz.prog 141 = false := by kernel_rfl
theorem us141 : (Tryz.prog.underlying 141).isSome = true := by kernel_rfl
theorem s141 : elemSl Tryz.prog 141 = none := by kernel_rfl
theorem ar141 : elemAr Tryz.prog 141 = none := by kernel_rfl
theorem k141 : Tryz.prog.underlying 141 = some (.int .i64) := by kernel_rfl
theorem z141 : zeroD Tryz.prog 141 = some (.int .i64 0) := by kernel_rfl
theorem c149 : Tryz.prog.cellsOf 149 = 1 := by kernel_rfl
theorem b149 : Tryz.prog.bytesOf 149 = 4 := by kernel_rfl
theorem a149 : aggT Tryz.prog 149 = false := by kernel_rfl
theorem us149 : (Tryz.prog.underlying 149).isSome = true := by kernel_rfl
theorem s149 : elemSl Tryz.prog 149 = none := by kernel_rfl
theorem ar149 : elemAr Tryz.prog 149 = none := by kernel_rfl
theorem k149 : Tryz.prog.underlying 149 = some (.int .u32) := by kernel_rfl
theorem z149 : zeroD Tryz.prog 149 = some (.int .u32 0) := by kernel_rfl
theorem c151 : Tryz.prog.cellsOf 151 = 1 := by kernel_rfl
theorem b151 : Tryz.prog.bytesOf 151 = 8 := by kernel_rfl
theorem a151 : aggT Tryz.prog 151 = false := by kernel_rfl
theorem us151 : (Tryz.prog.underlying 151).isSome = true := by kernel_rfl
theorem s151 : elemSl Tryz.prog 151 = none := by kernel_rfl
theorem ar151 : elemAr Tryz.prog 151 = none := by kernel_rfl
theorem k151 : Tryz.prog.underlying 151 = some (.int .u64) := by kernel_rfl
theorem z151 : zeroD Tryz.prog 151 = some (.int .u64 0) := by kernel_rfl
theorem c153 : Tryz.prog.cellsOf 153 = 1 := by kernel_rfl
theorem b153 : Tryz.prog.bytesOf 153 = 8 := by kernel_rfl
theorem a153 : aggT Tryz.prog 153 = false := by kernel_rfl
theorem us153 : (Tryz.prog.underlying 153).isSome = true := by kernel_rfl
theorem s153 : elemSl Tryz.prog 153 = none := by kernel_rfl
theorem ar153 : elemAr Tryz.prog 153 = none := by kernel_rfl
theorem k153 : Tryz.prog.underlying 153 = some (.int .u64) := by kernel_rfl
theorem z153 : zeroD Tryz.prog 153 = some (.int .u64 0) := by kernel_rfl
theorem c157 : Tryz.prog.cellsOf 157 = 1 := by kernel_rfl
theorem b157 : Tryz.prog.bytesOf 157 = 8 := by kernel_rfl
theorem a157 : aggT Tryz.prog 157 = false := by kernel_rfl
theorem us157 : (Tryz.prog.underlying 157).isSome = true := by kernel_rfl
theorem s157 : elemSl Tryz.prog 157 = none := by kernel_rfl
theorem ar157 : elemAr Tryz.prog 157 = none := by kernel_rfl
theorem z157 : zeroD Tryz.prog 157 = some .nilptr := by kernel_rfl
theorem c164 : Tryz.prog.cellsOf 164 = 1 := by kernel_rfl
theorem b164 : Tryz.prog.bytesOf 164 = 8 := by kernel_rfl
theorem a164 : aggT Tryz.prog 164 = false := by kernel_rfl
theorem us164 : (Tryz.prog.underlying 164).isSome = true := by kernel_rfl
theorem s164 : elemSl Tryz.prog 164 = none := by kernel_rfl
theorem ar164 : elemAr Tryz.prog 164 = none := by kernel_rfl
theorem z164 : zeroD Tryz.prog 164 = some .nilptr := by kernel_rfl
theorem c171 : Tryz.prog.cellsOf 171 = 4 := by kernel_rfl
theorem b171 : Tryz.prog.bytesOf 171 = 40 := by kernel_rfl
theorem a171 : aggT Tryz.prog 171 = true := by kernel_rfl
theorem us171 : (Tryz.prog.underlying 171).isSome = true := by kernel_rfl
theorem s171 : elemSl Tryz.prog 171 = none := by kernel_rfl
theorem ar171 : elemAr Tryz.prog 171 = none := by kernel_rfl
theorem z171 : zeroD Tryz.prog 171 = some (.agg [.nilptr, .nilptr, .nilptr, (.str ByteArray.empty)]) := by kernel_rfl
theorem f171_0 : fieldOf Tryz.prog 171 0 = some (0, 17) := by kernel_rfl
theorem p171_0 : places Tryz.prog 171 0 = some (0, 1) := by kernel_rfl
theorem f171_1 : fieldOf Tryz.prog 171 1 = some (1, 17) := by kernel_rfl
theorem p171_1 : places Tryz.prog 171 1 = some (1, 1) := by kernel_rfl
theorem f171_2 : fieldOf Tryz.prog 171 2 = some (2, 17) := by kernel_rfl
theorem p171_2 : places Tryz.prog 171 2 = some (2, 1) := by kernel_rfl
theorem f171_3 : fieldOf Tryz.prog 171 3 = some (3, 9) := by kernel_rfl
theorem p171_3 : places Tryz.prog 171 3 = some (3, 1) := by kernel_rfl
theorem pu171 : partsU Tryz.prog 171 = true := by kernel_rfl
theorem c172 : Tryz.prog.cellsOf 172 = 4 := by kernel_rfl
theorem b172 : Tryz.prog.bytesOf 172 = 40 := by kernel_rfl
theorem a172 : aggT Tryz.prog 172 = true := by kernel_rfl
theorem us172 : (Tryz.prog.underlying 172).isSome = true := by kernel_rfl
theorem s172 : elemSl Tryz.prog 172 = none := by kernel_rfl
theorem ar172 : elemAr Tryz.prog 172 = none := by kernel_rfl
theorem z172 : zeroD Tryz.prog 172 = some (.agg [.nilptr, .nilptr, .nilptr, (.str ByteArray.empty)]) := by kernel_rfl
theorem f172_0 : fieldOf Tryz.prog 172 0 = some (0, 17) := by kernel_rfl
theorem p172_0 : places Tryz.prog 172 0 = some (0, 1) := by kernel_rfl
theorem f172_1 : fieldOf Tryz.prog 172 1 = some (1, 17) := by kernel_rfl
theorem p172_1 : places Tryz.prog 172 1 = some (1, 1) := by kernel_rfl
theorem f172_2 : fieldOf Tryz.prog 172 2 = some (2, 17) := by kernel_rfl
theorem p172_2 : places Tryz.prog 172 2 = some (2, 1) := by kernel_rfl
theorem f172_3 : fieldOf Tryz.prog 172 3 = some (3, 9) := by kernel_rfl
theorem p172_3 : places Tryz.prog 172 3 = some (3, 1) := by kernel_rfl
theorem pu172 : partsU Tryz.prog 172 = true := by kernel_rfl
theorem c173 : Tryz.prog.cellsOf 173 = 0 := by kernel_rfl
theorem b173 : Tryz.prog.bytesOf 173 = 0 := by kernel_rfl
theorem a173 : aggT Tryz.prog 173 = true := by kernel_rfl
theorem us173 : (Tryz.prog.underlying 173).isSome = true := by kernel_rfl
theorem s173 : elemSl Tryz.prog 173 = none := by kernel_rfl
theorem ar173 : elemAr Tryz.prog 173 = some (0, 16) := by kernel_rfl
theorem z173 : zeroD Tryz.prog 173 = some (.agg []) := by kernel_rfl
theorem pu173 : partsU Tryz.prog 173 = true := by kernel_rfl
theorem c174 : Tryz.prog.cellsOf 174 = 0 := by kernel_rfl
theorem b174 : Tryz.prog.bytesOf 174 = 0 := by kernel_rfl
theorem a174 : aggT Tryz.prog 174 = true := by kernel_rfl
theorem us174 : (Tryz.prog.underlying 174).isSome = true := by kernel_rfl
theorem s174 : elemSl Tryz.prog 174 = none := by kernel_rfl
theorem ar174 : elemAr Tryz.prog 174 = none := by kernel_rfl
theorem z174 : zeroD Tryz.prog 174 = some (.agg []) := by kernel_rfl
theorem f174_0 : fieldOf Tryz.prog 174 0 = some (0, 173) := by kernel_rfl
theorem p174_0 : places Tryz.prog 174 0 = some (0, 0) := by kernel_rfl
theorem pu174 : partsU Tryz.prog 174 = true := by kernel_rfl
theorem c175 : Tryz.prog.cellsOf 175 = 0 := by kernel_rfl
theorem b175 : Tryz.prog.bytesOf 175 = 0 := by kernel_rfl
theorem a175 : aggT Tryz.prog 175 = true := by kernel_rfl
theorem us175 : (Tryz.prog.underlying 175).isSome = true := by kernel_rfl
theorem s175 : elemSl Tryz.prog 175 = none := by kernel_rfl
theorem ar175 : elemAr Tryz.prog 175 = none := by kernel_rfl
theorem z175 : zeroD Tryz.prog 175 = some (.agg []) := by kernel_rfl
theorem f175_0 : fieldOf Tryz.prog 175 0 = some (0, 173) := by kernel_rfl
theorem p175_0 : places Tryz.prog 175 0 = some (0, 0) := by kernel_rfl
theorem pu175 : partsU Tryz.prog 175 = true := by kernel_rfl
theorem c177 : Tryz.prog.cellsOf 177 = 1 := by kernel_rfl
theorem b177 : Tryz.prog.bytesOf 177 = 1 := by kernel_rfl
theorem a177 : aggT Tryz.prog 177 = false := by kernel_rfl
theorem us177 : (Tryz.prog.underlying 177).isSome = true := by kernel_rfl
theorem s177 : elemSl Tryz.prog 177 = none := by kernel_rfl
theorem ar177 : elemAr Tryz.prog 177 = none := by kernel_rfl
theorem k177 : Tryz.prog.underlying 177 = some (.int .u8) := by kernel_rfl
theorem z177 : zeroD Tryz.prog 177 = some (.int .u8 0) := by kernel_rfl
theorem c178 : Tryz.prog.cellsOf 178 = 1 := by kernel_rfl
theorem b178 : Tryz.prog.bytesOf 178 = 1 := by kernel_rfl
theorem a178 : aggT Tryz.prog 178 = false := by kernel_rfl
theorem us178 : (Tryz.prog.underlying 178).isSome = true := by kernel_rfl
theorem s178 : elemSl Tryz.prog 178 = none := by kernel_rfl
theorem ar178 : elemAr Tryz.prog 178 = none := by kernel_rfl
theorem k178 : Tryz.prog.underlying 178 = some (.int .u8) := by kernel_rfl
theorem z178 : zeroD Tryz.prog 178 = some (.int .u8 0) := by kernel_rfl
theorem c180 : Tryz.prog.cellsOf 180 = 1 := by kernel_rfl
theorem b180 : Tryz.prog.bytesOf 180 = 8 := by kernel_rfl
theorem a180 : aggT Tryz.prog 180 = false := by kernel_rfl
theorem us180 : (Tryz.prog.underlying 180).isSome = true := by kernel_rfl
theorem s180 : elemSl Tryz.prog 180 = none := by kernel_rfl
theorem ar180 : elemAr Tryz.prog 180 = none := by kernel_rfl
theorem z180 : zeroD Tryz.prog 180 = some .nilptr := by kernel_rfl
theorem c181 : Tryz.prog.cellsOf 181 = 1 := by kernel_rfl
theorem b181 : Tryz.prog.bytesOf 181 = 4 := by kernel_rfl
theorem a181 : aggT Tryz.prog 181 = false := by kernel_rfl
theorem us181 : (Tryz.prog.underlying 181).isSome = true := by kernel_rfl
theorem s181 : elemSl Tryz.prog 181 = none := by kernel_rfl
theorem ar181 : elemAr Tryz.prog 181 = none := by kernel_rfl
theorem k181 : Tryz.prog.underlying 181 = some (.int .i32) := by kernel_rfl
theorem z181 : zeroD Tryz.prog 181 = some (.int .i32 0) := by kernel_rfl
theorem c182 : Tryz.prog.cellsOf 182 = 1 := by kernel_rfl
theorem b182 : Tryz.prog.bytesOf 182 = 4 := by kernel_rfl
theorem a182 : aggT Tryz.prog 182 = false := by kernel_rfl
theorem us182 : (Tryz.prog.underlying 182).isSome = true := by kernel_rfl
theorem s182 : elemSl Tryz.prog 182 = none := by kernel_rfl
theorem ar182 : elemAr Tryz.prog 182 = none := by kernel_rfl
theorem k182 : Tryz.prog.underlying 182 = some (.int .i32) := by kernel_rfl
theorem z182 : zeroD Tryz.prog 182 = some (.int .i32 0) := by kernel_rfl
theorem c183 : Tryz.prog.cellsOf 183 = 11 := by kernel_rfl
theorem b183 : Tryz.prog.bytesOf 183 = 48 := by kernel_rfl
theorem a183 : aggT Tryz.prog 183 = true := by kernel_rfl
theorem us183 : (Tryz.prog.underlying 183).isSome = true := by kernel_rfl
theorem s183 : elemSl Tryz.prog 183 = none := by kernel_rfl
theorem ar183 : elemAr Tryz.prog 183 = none := by kernel_rfl
theorem z183 : zeroD Tryz.prog 183 = some (.agg [(.int .u64 0), (.int .u64 0), (.int .u32 0), (.int .u8 0), (.int .u8 0), (.int .u8 0), (.int .u8 0), .nilfn, .nilptr, (.int .i32 0), (.int .i32 0)]) := by kernel_rfl
theorem f183_0 : fieldOf Tryz.prog 183 0 = some (0, 12) := by kernel_rfl
theorem p183_0 : places Tryz.prog 183 0 = some (0, 1) := by kernel_rfl
theorem f183_1 : fieldOf Tryz.prog 183 1 = some (1, 12) := by kernel_rfl
theorem p183_1 : places Tryz.prog 183 1 = some (1, 1) := by kernel_rfl
theorem f183_2 : fieldOf Tryz.prog 183 2 = some (2, 149) := by kernel_rfl
theorem p183_2 : places Tryz.prog 183 2 = some (2, 1) := by kernel_rfl
theorem f183_3 : fieldOf Tryz.prog 183 3 = some (3, 177) := by kernel_rfl
theorem p183_3 : places Tryz.prog 183 3 = some (3, 1) := by kernel_rfl
theorem f183_4 : fieldOf Tryz.prog 183 4 = some (4, 5) := by kernel_rfl
theorem p183_4 : places Tryz.prog 183 4 = some (4, 1) := by kernel_rfl
theorem f183_5 : fieldOf Tryz.prog 183 5 = some (5, 5) := by kernel_rfl
theorem p183_5 : places Tryz.prog 183 5 = some (5, 1) := by kernel_rfl
theorem f183_6 : fieldOf Tryz.prog 183 6 = some (6, 178) := by kernel_rfl
theorem p183_6 : places Tryz.prog 183 6 = some (6, 1) := by kernel_rfl
theorem f183_7 : fieldOf Tryz.prog 183 7 = some (7, 179) := by kernel_rfl
theorem f183_8 : fieldOf Tryz.prog 183 8 = some (8, 180) := by kernel_rfl
theorem p183_8 : places Tryz.prog 183 8 = some (8, 1) := by kernel_rfl
theorem f183_9 : fieldOf Tryz.prog 183 9 = some (9, 181) := by kernel_rfl
theorem p183_9 : places Tryz.prog 183 9 = some (9, 1) := by kernel_rfl
theorem f183_10 : fieldOf Tryz.prog 183 10 = some (10, 182) := by kernel_rfl
theorem p183_10 : places Tryz.prog 183 10 = some (10, 1) := by kernel_rfl
theorem pu183 : partsU Tryz.prog 183 = true := by kernel_rfl
theorem c184 : Tryz.prog.cellsOf 184 = 11 := by kernel_rfl
theorem b184 : Tryz.prog.bytesOf 184 = 48 := by kernel_rfl
theorem a184 : aggT Tryz.prog 184 = true := by kernel_rfl
theorem us184 : (Tryz.prog.underlying 184).isSome = true := by kernel_rfl
theorem s184 : elemSl Tryz.prog 184 = none := by kernel_rfl
theorem ar184 : elemAr Tryz.prog 184 = none := by kernel_rfl
theorem z184 : zeroD Tryz.prog 184 = some (.agg [(.int .u64 0), (.int .u64 0), (.int .u32 0), (.int .u8 0), (.int .u8 0), (.int .u8 0), (.int .u8 0), .nilfn, .nilptr, (.int .i32 0), (.int .i32 0)]) := by kernel_rfl
theorem f184_0 : fieldOf Tryz.prog 184 0 = some (0, 12) := by kernel_rfl
theorem p184_0 : places Tryz.prog 184 0 = some (0, 1) := by kernel_rfl
theorem f184_1 : fieldOf Tryz.prog 184 1 = some (1, 12) := by kernel_rfl
theorem p184_1 : places Tryz.prog 184 1 = some (1, 1) := by kernel_rfl
theorem f184_2 : fieldOf Tryz.prog 184 2 = some (2, 149) := by kernel_rfl
theorem p184_2 : places Tryz.prog 184 2 = some (2, 1) := by kernel_rfl
theorem f184_3 : fieldOf Tryz.prog 184 3 = some (3, 177) := by kernel_rfl
theorem p184_3 : places Tryz.prog 184 3 = some (3, 1) := by kernel_rfl
theorem f184_4 : fieldOf Tryz.prog 184 4 = some (4, 5) := by kernel_rfl
theorem p184_4 : places Tryz.prog 184 4 = some (4, 1) := by kernel_rfl
theorem f184_5 : fieldOf Tryz.prog 184 5 = some (5, 5) := by kernel_rfl
theorem p184_5 : places Tryz.prog 184 5 = some (5, 1) := by kernel_rfl
theorem f184_6 : fieldOf Tryz.prog 184 6 = some (6, 178) := by kernel_rfl
theorem p184_6 : places Tryz.prog 184 6 = some (6, 1) := by kernel_rfl
theorem f184_7 : fieldOf Tryz.prog 184 7 = some (7, 179) := by kernel_rfl
theorem f184_8 : fieldOf Tryz.prog 184 8 = some (8, 180) := by kernel_rfl
theorem p184_8 : places Tryz.prog 184 8 = some (8, 1) := by kernel_rfl
theorem f184_9 : fieldOf Tryz.prog 184 9 = some (9, 181) := by kernel_rfl
theorem p184_9 : places Tryz.prog 184 9 = some (9, 1) := by kernel_rfl
theorem f184_10 : fieldOf Tryz.prog 184 10 = some (10, 182) := by kernel_rfl
theorem p184_10 : places Tryz.prog 184 10 = some (10, 1) := by kernel_rfl
theorem pu184 : partsU Tryz.prog 184 = true := by kernel_rfl
attribute [go_sem] c2 b2 a2 us2 s2 ar2 k2 z2 c3 b3 a3 us3 s3 ar3 k3 z3 c4 b4 a4 us4 s4 ar4 bo4 z4 c5 b5 a5 us5 s5 ar5 k5 z5 c6 b6 a6 us6 s6 ar6 k6 z6
attribute [go_sem] c7 b7 a7 us7 s7 ar7 z7 f7_0 p7_0 f7_1 p7_1 f7_2 p7_2 f7_3 p7_3 pu7 c8 b8 a8 us8 s8 ar8 z8 f8_0 p8_0 f8_1 p8_1 f8_2 p8_2 f8_3 p8_3 pu8 c9 b9 a9 us9 s9 ar9 st9 z9
attribute [go_sem] c10 b10 a10 us10 s10 ar10 st10 z10 c11 b11 a11 us11 s11 ar11 st11 z11 c12 b12 a12 us12 s12 ar12 k12 z12 c13 b13 a13 us13 s13 ar13 z13 f13_0 p13_0 f13_1 p13_1 pu13 c14 b14 a14 us14
attribute [go_sem] s14 ar14 z14 f14_0 p14_0 f14_1 p14_1 pu14 c15 b15 a15 us15 s15 ar15 z15 c16 b16 a16 us16 s16 ar16 z16 c17 b17 a17 us17 s17 ar17 z17 c18 b18 a18 us18 s18 ar18 z18 f18_0 p18_0 pu18 c19
attribute [go_sem] b19 a19 us19 s19 ar19 z19 f19_0 p19_0 pu19 c21 b21 a21 us21 s21 ar21 k21 z21 c22 b22 a22 us22 s22 ar22 z22 c23 b23 a23 us23 s23 ar23 z23 f23_0 p23_0 f23_1 p23_1 pu23 c24 b24 a24 us24
attribute [go_sem] s24 ar24 z24 f24_0 p24_0 f24_1 p24_1 pu24 c25 b25 a25 us25 s25 ar25 z25 c28 b28 a28 us28 s28 ar28 z28 c31 b31 a31 us31 s31 ar31 z31 f31_0 p31_0 f31_1 p31_1 pu31 c33 b33 a33 us33 s33 ar33
attribute [go_sem] z33 c48 b48 a48 us48 s48 ar48 z48 c52 b52 a52 us52 s52 ar52 z52 c57 b57 a57 us57 s57 ar57 z57 f57_0 p57_0 f57_1 p57_1 f57_2 p57_2 f57_3 p57_3 pu57 c58 b58 a58 us58 s58 ar58 z58 f58_0 p58_0
attribute [go_sem] f58_1 p58_1 f58_2 p58_2 f58_3 p58_3 pu58 c62 b62 a62 us62 s62 ar62 z62 f62_0 p62_0 f62_1 p62_1 f62_2 p62_2 f62_3 p62_3 pu62 c70 b70 a70 us70 s70 ar70 z70 c81 b81 a81 us81 s81 ar81 z81 f81_0 p81_0 f81_1
attribute [go_sem] p81_1 f81_2 p81_2 f81_3 p81_3 pu81 c82 b82 a82 us82 s82 ar82 z82 f82_0 p82_0 f82_1 p82_1 f82_2 p82_2 f82_3 p82_3 pu82 c84 b84 a84 us84 s84 ar84 z84 f84_0 p84_0 f84_1 p84_1 f84_2 p84_2 f84_3 p84_3 pu84 c85 b85
attribute [go_sem] a85 us85 s85 ar85 z85 f85_0 p85_0 f85_1 p85_1 f85_2 p85_2 f85_3 p85_3 pu85 c87 b87 a87 us87 s87 ar87 z87 f87_0 p87_0 f87_1 p87_1 f87_2 p87_2 f87_3 p87_3 pu87 c88 b88 a88 us88 s88 ar88 z88 c106 b106 a106
attribute [go_sem] us106 s106 ar106 z106 c134 b134 a134 us134 s134 ar134 k134 z134 c141 b141 a141 us141 s141 ar141 k141 z141 c149 b149 a149 us149 s149 ar149 k149 z149 c151 b151 a151 us151 s151 ar151 k151 z151 c153 b153 a153 us153
attribute [go_sem] s153 ar153 k153 z153 c157 b157 a157 us157 s157 ar157 z157 c164 b164 a164 us164 s164 ar164 z164 c171 b171 a171 us171 s171 ar171 z171 f171_0 p171_0 f171_1 p171_1 f171_2 p171_2 f171_3 p171_3 pu171 c172 b172 a172 us172 s172 ar172
attribute [go_sem] z172 f172_0 p172_0 f172_1 p172_1 f172_2 p172_2 f172_3 p172_3 pu172 c173 b173 a173 us173 s173 ar173 z173 pu173 c174 b174 a174 us174 s174 ar174 z174 f174_0 p174_0 pu174 c175 b175 a175 us175 s175 ar175 z175 f175_0 p175_0 pu175 c177 b177
attribute [go_sem] a177 us177 s177 ar177 k177 z177 c178 b178 a178 us178 s178 ar178 k178 z178 c180 b180 a180 us180 s180 ar180 z180 c181 b181 a181 us181 s181 ar181 k181 z181 c182 b182 a182 us182 s182 ar182 k182 z182 c183 b183 a183
attribute [go_sem] us183 s183 ar183 z183 f183_0 p183_0 f183_1 p183_1 f183_2 p183_2 f183_3 p183_3 f183_4 p183_4 f183_5 p183_5 f183_6 p183_6 f183_7 f183_8 p183_8 f183_9 p183_9 f183_10 p183_10 pu183 c184 b184 a184 us184 s184 ar184 z184 f184_0 p184_0 f184_1 p184_1 f184_2 p184_2 f184_3
attribute [go_sem] p184_3 f184_4 p184_4 f184_5 p184_5 f184_6 p184_6 f184_7 f184_8 p184_8 f184_9 p184_9 f184_10 p184_10 pu184
end Abs.Y.Ty
