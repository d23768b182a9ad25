/- The facts on the types of this seat that the abstract walk asks for, by program. No condition. -/
import Derived.Test.YtgnnmgmgnkbmbaaGreatAbsRow
import Derived.Test.YtgnnmgmgnkbmbaaGreatChecked
set_option linter.all false
namespace Abs.Y.Ty
open Go Go.Proofs Abs
theorem c2 : Tryz.prog.cellsOf 2 = 1 := by kernel_rfl
theorem b2 : Tryz.prog.bytesOf 2 = 8 := by kernel_rfl
theorem a2 : aggT Tryz.prog 2 = false := by kernel_rfl
theorem us2 : (Tryz.prog.underlying 2).isSome = true := by kernel_rfl
theorem s2 : elemSl Tryz.prog 2 = none := by kernel_rfl
theorem ar2 : elemAr Tryz.prog 2 = none := by kernel_rfl
theorem k2 : Tryz.prog.underlying 2 = some (.int .i64) := by kernel_rfl
theorem z2 : zeroD Tryz.prog 2 = some (.int .i64 0) := by kernel_rfl
theorem c3 : Tryz.prog.cellsOf 3 = 1 := by kernel_rfl
theorem b3 : Tryz.prog.bytesOf 3 = 8 := by kernel_rfl
theorem a3 : aggT Tryz.prog 3 = false := by kernel_rfl
theorem us3 : (Tryz.prog.underlying 3).isSome = true := by kernel_rfl
theorem s3 : elemSl Tryz.prog 3 = none := by kernel_rfl
theorem ar3 : elemAr Tryz.prog 3 = none := by kernel_rfl
theorem k3 : Tryz.prog.underlying 3 = some (.int .i64) := by kernel_rfl
theorem z3 : zeroD Tryz.prog 3 = some (.int .i64 0) := by kernel_rfl
theorem c4 : Tryz.prog.cellsOf 4 = 1 := by kernel_rfl
theorem b4 : Tryz.prog.bytesOf 4 = 1 := by kernel_rfl
theorem a4 : aggT Tryz.prog 4 = false := by kernel_rfl
theorem us4 : (Tryz.prog.underlying 4).isSome = true := by kernel_rfl
theorem s4 : elemSl Tryz.prog 4 = none := by kernel_rfl
theorem ar4 : elemAr Tryz.prog 4 = none := by kernel_rfl
theorem bo4 : isBoolT Tryz.prog 4 = true := by kernel_rfl
theorem z4 : zeroD Tryz.prog 4 = some (.bool false) := by kernel_rfl
theorem c5 : Tryz.prog.cellsOf 5 = 1 := by kernel_rfl
theorem b5 : Tryz.prog.bytesOf 5 = 1 := by kernel_rfl
theorem a5 : aggT Tryz.prog 5 = false := by kernel_rfl
theorem us5 : (Tryz.prog.underlying 5).isSome = true := by kernel_rfl
theorem s5 : elemSl Tryz.prog 5 = none := by kernel_rfl
theorem ar5 : elemAr Tryz.prog 5 = none := by kernel_rfl
theorem k5 : Tryz.prog.underlying 5 = some (.int .u8) := by kernel_rfl
theorem z5 : zeroD Tryz.prog 5 = some (.int .u8 0) := by kernel_rfl
theorem c6 : Tryz.prog.cellsOf 6 = 1 := by kernel_rfl
theorem b6 : Tryz.prog.bytesOf 6 = 1 := by kernel_rfl
theorem a6 : aggT Tryz.prog 6 = false := by kernel_rfl
theorem us6 : (Tryz.prog.underlying 6).isSome = true := by kernel_rfl
theorem s6 : elemSl Tryz.prog 6 = none := by kernel_rfl
theorem ar6 : elemAr Tryz.prog 6 = none := by kernel_rfl
theorem k6 : Tryz.prog.underlying 6 = some (.int .u8) := by kernel_rfl
theorem z6 : zeroD Tryz.prog 6 = some (.int .u8 0) := by kernel_rfl
theorem c7 : Tryz.prog.cellsOf 7 = 4 := by kernel_rfl
theorem b7 : Tryz.prog.bytesOf 7 = 24 := by kernel_rfl
theorem a7 : aggT Tryz.prog 7 = true := by kernel_rfl
theorem us7 : (Tryz.prog.underlying 7).isSome = true := by kernel_rfl
theorem s7 : elemSl Tryz.prog 7 = none := by kernel_rfl
theorem ar7 : elemAr Tryz.prog 7 = none := by kernel_rfl
theorem z7 : zeroD Tryz.prog 7 = some (.agg [(.int .i64 0), (.int .i64 0), (.bool false), (.int .u8 0)]) := by kernel_rfl
theorem f7_0 : fieldOf Tryz.prog 7 0 = some (0, 2) := by kernel_rfl
theorem p7_0 : places Tryz.prog 7 0 = some (0, 1) := by kernel_rfl
theorem f7_1 : fieldOf Tryz.prog 7 1 = some (1, 3) := by kernel_rfl
theorem p7_1 : places Tryz.prog 7 1 = some (1, 1) := by kernel_rfl
theorem f7_2 : fieldOf Tryz.prog 7 2 = some (2, 4) := by kernel_rfl
theorem p7_2 : places Tryz.prog 7 2 = some (2, 1) := by kernel_rfl
theorem f7_3 : fieldOf Tryz.prog 7 3 = some (3, 6) := by kernel_rfl
theorem p7_3 : places Tryz.prog 7 3 = some (3, 1) := by kernel_rfl
theorem pu7 : partsU Tryz.prog 7 = true := by kernel_rfl
theorem c8 : Tryz.prog.cellsOf 8 = 4 := by kernel_rfl
theorem b8 : Tryz.prog.bytesOf 8 = 24 := by kernel_rfl
theorem a8 : aggT Tryz.prog 8 = true := by kernel_rfl
theorem us8 : (Tryz.prog.underlying 8).isSome = true := by kernel_rfl
theorem s8 : elemSl Tryz.prog 8 = none := by kernel_rfl
theorem ar8 : elemAr Tryz.prog 8 = none := by kernel_rfl
theorem z8 : zeroD Tryz.prog 8 = some (.agg [(.int .i64 0), (.int .i64 0), (.bool false), (.int .u8 0)]) := by kernel_rfl
theorem f8_0 : fieldOf Tryz.prog 8 0 = some (0, 2) := by kernel_rfl
theorem p8_0 : places Tryz.prog 8 0 = some (0, 1) := by kernel_rfl
theorem f8_1 : fieldOf Tryz.prog 8 1 = some (1, 3) := by kernel_rfl
theorem p8_1 : places Tryz.prog 8 1 = some (1, 1) := by kernel_rfl
theorem f8_2 : fieldOf Tryz.prog 8 2 = some (2, 4) := by kernel_rfl
theorem p8_2 : places Tryz.prog 8 2 = some (2, 1) := by kernel_rfl
theorem f8_3 : fieldOf Tryz.prog 8 3 = some (3, 6) := by kernel_rfl
theorem p8_3 : places Tryz.prog 8 3 = some (3, 1) := by kernel_rfl
theorem pu8 : partsU Tryz.prog 8 = true := by kernel_rfl
theorem c9 : Tryz.prog.cellsOf 9 = 1 := by kernel_rfl
theorem b9 : Tryz.prog.bytesOf 9 = 16 := by kernel_rfl
theorem a9 : aggT Tryz.prog 9 = false := by kernel_rfl
theorem us9 : (Tryz.prog.underlying 9).isSome = true := by kernel_rfl
theorem s9 : elemSl Tryz.prog 9 = none := by kernel_rfl
theorem ar9 : elemAr Tryz.prog 9 = none := by kernel_rfl
theorem st9 : isStrT Tryz.prog 9 = true := by kernel_rfl
theorem z9 : zeroD Tryz.prog 9 = some (.str ByteArray.empty) := by kernel_rfl
theorem c10 : Tryz.prog.cellsOf 10 = 1 := by kernel_rfl
theorem b10 : Tryz.prog.bytesOf 10 = 16 := by kernel_rfl
theorem a10 : aggT Tryz.prog 10 = false := by kernel_rfl
theorem us10 : (Tryz.prog.underlying 10).isSome = true := by kernel_rfl
theorem s10 : elemSl Tryz.prog 10 = none := by kernel_rfl
theorem ar10 : elemAr Tryz.prog 10 = none := by kernel_rfl
theorem st10 : isStrT Tryz.prog 10 = true := by kernel_rfl
theorem z10 : zeroD Tryz.prog 10 = some (.str ByteArray.empty) := by kernel_rfl
theorem c11 : Tryz.prog.cellsOf 11 = 1 := by kernel_rfl
theorem b11 : Tryz.prog.bytesOf 11 = 16 := by kernel_rfl
theorem a11 : aggT Tryz.prog 11 = false := by kernel_rfl
theorem us11 : (Tryz.prog.underlying 11).isSome = true := by kernel_rfl
theorem s11 : elemSl Tryz.prog 11 = none := by kernel_rfl
theorem ar11 : elemAr Tryz.prog 11 = none := by kernel_rfl
theorem st11 : isStrT Tryz.prog 11 = true := by kernel_rfl
theorem z11 : zeroD Tryz.prog 11 = some (.str ByteArray.empty) := by kernel_rfl
theorem c12 : Tryz.prog.cellsOf 12 = 1 := by kernel_rfl
theorem b12 : Tryz.prog.bytesOf 12 = 8 := by kernel_rfl
theorem a12 : aggT Tryz.prog 12 = false := by kernel_rfl
theorem us12 : (Tryz.prog.underlying 12).isSome = true := by kernel_rfl
theorem s12 : elemSl Tryz.prog 12 = none := by kernel_rfl
theorem ar12 : elemAr Tryz.prog 12 = none := by kernel_rfl
theorem k12 : Tryz.prog.underlying 12 = some (.int .u64) := by kernel_rfl
theorem z12 : zeroD Tryz.prog 12 = some (.int .u64 0) := by kernel_rfl
theorem c13 : Tryz.prog.cellsOf 13 = 2 := by kernel_rfl
theorem b13 : Tryz.prog.bytesOf 13 = 24 := by kernel_rfl
theorem a13 : aggT Tryz.prog 13 = true := by kernel_rfl
theorem us13 : (Tryz.prog.underlying 13).isSome = true := by kernel_rfl
theorem s13 : elemSl Tryz.prog 13 = none := by kernel_rfl
theorem ar13 : elemAr Tryz.prog 13 = none := by kernel_rfl
theorem z13 : zeroD Tryz.prog 13 = some (.agg [(.str ByteArray.empty), (.int .u64 0)]) := by kernel_rfl
theorem f13_0 : fieldOf Tryz.prog 13 0 = some (0, 9) := by kernel_rfl
theorem p13_0 : places Tryz.prog 13 0 = some (0, 1) := by kernel_rfl
theorem f13_1 : fieldOf Tryz.prog 13 1 = some (1, 12) := by kernel_rfl
theorem p13_1 : places Tryz.prog 13 1 = some (1, 1) := by kernel_rfl
theorem pu13 : partsU Tryz.prog 13 = true := by kernel_rfl
theorem c14 : Tryz.prog.cellsOf 14 = 2 := by kernel_rfl
theorem b14 : Tryz.prog.bytesOf 14 = 24 := by kernel_rfl
theorem a14 : aggT Tryz.prog 14 = true := by kernel_rfl
theorem us14 : (Tryz.prog.underlying 14).isSome = true := by kernel_rfl
theorem s14 : elemSl Tryz.prog 14 = none := by kernel_rfl
theorem ar14 : elemAr Tryz.prog 14 = none := by kernel_rfl
theorem z14 : zeroD Tryz.prog 14 = some (.agg [(.str ByteArray.empty), (.int .u64 0)]) := by kernel_rfl
theorem f14_0 : fieldOf Tryz.prog 14 0 = some (0, 9) := by kernel_rfl
theorem p14_0 : places Tryz.prog 14 0 = some (0, 1) := by kernel_rfl
theorem f14_1 : fieldOf Tryz.prog 14 1 = some (1, 12) := by kernel_rfl
theorem p14_1 : places Tryz.prog 14 1 = some (1, 1) := by kernel_rfl
theorem pu14 : partsU Tryz.prog 14 = true := by kernel_rfl
theorem c15 : Tryz.prog.cellsOf 15 = 1 := by kernel_rfl
theorem b15 : Tryz.prog.bytesOf 15 = 8 := by kernel_rfl
theorem a15 : aggT Tryz.prog 15 = false := by kernel_rfl
theorem us15 : (Tryz.prog.underlying 15).isSome = true := by kernel_rfl
theorem s15 : elemSl Tryz.prog 15 = none := by kernel_rfl
theorem ar15 : elemAr Tryz.prog 15 = none := by kernel_rfl
theorem z15 : zeroD Tryz.prog 15 = some .nilptr := by kernel_rfl
theorem c16 : Tryz.prog.cellsOf 16 = 1 := by kernel_rfl
theorem b16 : Tryz.prog.bytesOf 16 = 8 := by kernel_rfl
theorem a16 : aggT Tryz.prog 16 = false := by kernel_rfl
theorem us16 : (Tryz.prog.underlying 16).isSome = true := by kernel_rfl
theorem s16 : elemSl Tryz.prog 16 = none := by kernel_rfl
theorem ar16 : elemAr Tryz.prog 16 = none := by kernel_rfl
theorem z16 : zeroD Tryz.prog 16 = some .nilptr := by kernel_rfl
theorem c17 : Tryz.prog.cellsOf 17 = 1 := by kernel_rfl
theorem b17 : Tryz.prog.bytesOf 17 = 8 := by kernel_rfl
theorem a17 : aggT Tryz.prog 17 = false := by kernel_rfl
theorem us17 : (Tryz.prog.underlying 17).isSome = true := by kernel_rfl
theorem s17 : elemSl Tryz.prog 17 = none := by kernel_rfl
theorem ar17 : elemAr Tryz.prog 17 = none := by kernel_rfl
theorem z17 : zeroD Tryz.prog 17 = some .nilptr := by kernel_rfl
theorem c18 : Tryz.prog.cellsOf 18 = 1 := by kernel_rfl
theorem b18 : Tryz.prog.bytesOf 18 = 8 := by kernel_rfl
theorem a18 : aggT Tryz.prog 18 = true := by kernel_rfl
theorem us18 : (Tryz.prog.underlying 18).isSome = true := by kernel_rfl
theorem s18 : elemSl Tryz.prog 18 = none := by kernel_rfl
theorem ar18 : elemAr Tryz.prog 18 = none := by kernel_rfl
theorem z18 : zeroD Tryz.prog 18 = some (.agg [.nilptr]) := by kernel_rfl
theorem f18_0 : fieldOf Tryz.prog 18 0 = some (0, 17) := by kernel_rfl
theorem p18_0 : places Tryz.prog 18 0 = some (0, 1) := by kernel_rfl
theorem pu18 : partsU Tryz.prog 18 = true := by kernel_rfl
theorem c19 : Tryz.prog.cellsOf 19 = 1 := by kernel_rfl
theorem b19 : Tryz.prog.bytesOf 19 = 8 := by kernel_rfl
theorem a19 : aggT Tryz.prog 19 = true := by kernel_rfl
theorem us19 : (Tryz.prog.underlying 19).isSome = true := by kernel_rfl
theorem s19 : elemSl Tryz.prog 19 = none := by kernel_rfl
theorem ar19 : elemAr Tryz.prog 19 = none := by kernel_rfl
theorem z19 : zeroD Tryz.prog 19 = some (.agg [.nilptr]) := by kernel_rfl
theorem f19_0 : fieldOf Tryz.prog 19 0 = some (0, 17) := by kernel_rfl
theorem p19_0 : places Tryz.prog 19 0 = some (0, 1) := by kernel_rfl
theorem pu19 : partsU Tryz.prog 19 = true := by kernel_rfl
theorem c21 : Tryz.prog.cellsOf 21 = 1 := by kernel_rfl
theorem b21 : Tryz.prog.bytesOf 21 = 4 := by kernel_rfl
theorem a21 : aggT Tryz.prog 21 = false := by kernel_rfl
theorem us21 : (Tryz.prog.underlying 21).isSome = true := by kernel_rfl
theorem s21 : elemSl Tryz.prog 21 = none := by kernel_rfl
theorem ar21 : elemAr Tryz.prog 21 = none := by kernel_rfl
theorem k21 : Tryz.prog.underlying 21 = some (.int .i32) := by kernel_rfl
theorem z21 : zeroD Tryz.prog 21 = some (.int .i32 0) := by kernel_rfl
theorem c22 : Tryz.prog.cellsOf 22 = 1 := by kernel_rfl
theorem b22 : Tryz.prog.bytesOf 22 = 24 := by kernel_rfl
theorem a22 : aggT Tryz.prog 22 = false := by kernel_rfl
theorem us22 : (Tryz.prog.underlying 22).isSome = true := by kernel_rfl
theorem s22 : elemSl Tryz.prog 22 = some 43 := by kernel_rfl
theorem ar22 : elemAr Tryz.prog 22 = none := by kernel_rfl
theorem z22 : zeroD Tryz.prog 22 = some (.slice []) := by kernel_rfl
theorem c23 : Tryz.prog.cellsOf 23 = 2 := by kernel_rfl
theorem b23 : Tryz.prog.bytesOf 23 = 32 := by kernel_rfl
theorem a23 : aggT Tryz.prog 23 = true := by kernel_rfl
theorem us23 : (Tryz.prog.underlying 23).isSome = true := by kernel_rfl
theorem s23 : elemSl Tryz.prog 23 = none := by kernel_rfl
theorem ar23 : elemAr Tryz.prog 23 = none := by kernel_rfl
theorem z23 : zeroD Tryz.prog 23 = some (.agg [(.int .i64 0), (.slice [])]) := by kernel_rfl
theorem f23_0 : fieldOf Tryz.prog 23 0 = some (0, 3) := by kernel_rfl
theorem p23_0 : places Tryz.prog 23 0 = some (0, 1) := by kernel_rfl
theorem f23_1 : fieldOf Tryz.prog 23 1 = some (1, 22) := by kernel_rfl
theorem p23_1 : places Tryz.prog 23 1 = some (1, 1) := by kernel_rfl
theorem pu23 : partsU Tryz.prog 23 = true := by kernel_rfl
theorem c24 : Tryz.prog.cellsOf 24 = 2 := by kernel_rfl
theorem b24 : Tryz.prog.bytesOf 24 = 32 := by kernel_rfl
theorem a24 : aggT Tryz.prog 24 = true := by kernel_rfl
theorem us24 : (Tryz.prog.underlying 24).isSome = true := by kernel_rfl
theorem s24 : elemSl Tryz.prog 24 = none := by kernel_rfl
theorem ar24 : elemAr Tryz.prog 24 = none := by kernel_rfl
theorem z24 : zeroD Tryz.prog 24 = some (.agg [(.int .i64 0), (.slice [])]) := by kernel_rfl
theorem f24_0 : fieldOf Tryz.prog 24 0 = some (0, 3) := by kernel_rfl
theorem p24_0 : places Tryz.prog 24 0 = some (0, 1) := by kernel_rfl
theorem f24_1 : fieldOf Tryz.prog 24 1 = some (1, 22) := by kernel_rfl
theorem p24_1 : places Tryz.prog 24 1 = some (1, 1) := by kernel_rfl
theorem pu24 : partsU Tryz.prog 24 = true := by kernel_rfl
theorem c25 : Tryz.prog.cellsOf 25 = 1 := by kernel_rfl
theorem b25 : Tryz.prog.bytesOf 25 = 24 := by kernel_rfl
theorem a25 : aggT Tryz.prog 25 = false := by kernel_rfl
theorem us25 : (Tryz.prog.underlying 25).isSome = true := by kernel_rfl
theorem s25 : elemSl Tryz.prog 25 = some 63 := by kernel_rfl
theorem ar25 : elemAr Tryz.prog 25 = none := by kernel_rfl
theorem z25 : zeroD Tryz.prog 25 = some (.slice []) := by kernel_rfl
theorem c30 : Tryz.prog.cellsOf 30 = 2 := by kernel_rfl
theorem b30 : Tryz.prog.bytesOf 30 = 32 := by kernel_rfl
theorem a30 : aggT Tryz.prog 30 = true := by kernel_rfl
theorem us30 : (Tryz.prog.underlying 30).isSome = true := by kernel_rfl
theorem s30 : elemSl Tryz.prog 30 = none := by kernel_rfl
theorem ar30 : elemAr Tryz.prog 30 = none := by kernel_rfl
theorem z30 : zeroD Tryz.prog 30 = some (.agg [(.int .i64 0), (.slice [])]) := by kernel_rfl
theorem f30_0 : fieldOf Tryz.prog 30 0 = some (0, 3) := by kernel_rfl
theorem p30_0 : places Tryz.prog 30 0 = some (0, 1) := by kernel_rfl
theorem f30_1 : fieldOf Tryz.prog 30 1 = some (1, 22) := by kernel_rfl
theorem p30_1 : places Tryz.prog 30 1 = some (1, 1) := by kernel_rfl
theorem pu30 : partsU Tryz.prog 30 = true := by kernel_rfl
theorem c32 : Tryz.prog.cellsOf 32 = 1 := by kernel_rfl
theorem b32 : Tryz.prog.bytesOf 32 = 24 := by kernel_rfl
theorem a32 : aggT Tryz.prog 32 = false := by kernel_rfl
theorem us32 : (Tryz.prog.underlying 32).isSome = true := by kernel_rfl
theorem s32 : elemSl Tryz.prog 32 = some 61 := by kernel_rfl
theorem ar32 : elemAr Tryz.prog 32 = none := by kernel_rfl
theorem z32 : zeroD Tryz.prog 32 = some (.slice []) := by kernel_rfl
theorem c41 : Tryz.prog.cellsOf 41 = 1 := by kernel_rfl
theorem b41 : Tryz.prog.bytesOf 41 = 24 := by kernel_rfl
theorem a41 : aggT Tryz.prog 41 = false := by kernel_rfl
theorem us41 : (Tryz.prog.underlying 41).isSome = true := by kernel_rfl
theorem s41 : elemSl Tryz.prog 41 = some 76 := by kernel_rfl
theorem ar41 : elemAr Tryz.prog 41 = none := by kernel_rfl
theorem z41 : zeroD Tryz.prog 41 = some (.slice []) := by kernel_rfl
theorem c43 : Tryz.prog.cellsOf 43 = 1 := by kernel_rfl
theorem b43 : Tryz.prog.bytesOf 43 = 24 := by kernel_rfl
theorem a43 : aggT Tryz.prog 43 = false := by kernel_rfl
theorem us43 : (Tryz.prog.underlying 43).isSome = true := by kernel_rfl
theorem s43 : elemSl Tryz.prog 43 = some 3 := by kernel_rfl
theorem ar43 : elemAr Tryz.prog 43 = none := by kernel_rfl
theorem z43 : zeroD Tryz.prog 43 = some (.slice []) := by kernel_rfl
theorem c46 : Tryz.prog.cellsOf 46 = 1 := by kernel_rfl
theorem b46 : Tryz.prog.bytesOf 46 = 24 := by kernel_rfl
theorem a46 : aggT Tryz.prog 46 = false := by kernel_rfl
theorem us46 : (Tryz.prog.underlying 46).isSome = true := by kernel_rfl
theorem s46 : elemSl Tryz.prog 46 = some 80 := by kernel_rfl
theorem ar46 : elemAr Tryz.prog 46 = none := by kernel_rfl
theorem z46 : zeroD Tryz.prog 46 = some (.slice []) := by kernel_rfl
theorem c56 : Tryz.prog.cellsOf 56 = 4 := by kernel_rfl
theorem b56 : Tryz.prog.bytesOf 56 = 64 := by kernel_rfl
theorem a56 : aggT Tryz.prog 56 = true := by kernel_rfl
theorem us56 : (Tryz.prog.underlying 56).isSome = true := by kernel_rfl
theorem s56 : elemSl Tryz.prog 56 = none := by kernel_rfl
theorem ar56 : elemAr Tryz.prog 56 = none := by kernel_rfl
theorem z56 : zeroD Tryz.prog 56 = some (.agg [(.slice []), (.int .i64 0), (.slice []), (.bool false)]) := by kernel_rfl
theorem f56_0 : fieldOf Tryz.prog 56 0 = some (0, 22) := by kernel_rfl
theorem p56_0 : places Tryz.prog 56 0 = some (0, 1) := by kernel_rfl
theorem f56_1 : fieldOf Tryz.prog 56 1 = some (1, 3) := by kernel_rfl
theorem p56_1 : places Tryz.prog 56 1 = some (1, 1) := by kernel_rfl
theorem f56_2 : fieldOf Tryz.prog 56 2 = some (2, 22) := by kernel_rfl
theorem p56_2 : places Tryz.prog 56 2 = some (2, 1) := by kernel_rfl
theorem f56_3 : fieldOf Tryz.prog 56 3 = some (3, 4) := by kernel_rfl
theorem p56_3 : places Tryz.prog 56 3 = some (3, 1) := by kernel_rfl
theorem pu56 : partsU Tryz.prog 56 = true := by kernel_rfl
theorem c57 : Tryz.prog.cellsOf 57 = 4 := by kernel_rfl
theorem b57 : Tryz.prog.bytesOf 57 = 64 := by kernel_rfl
theorem a57 : aggT Tryz.prog 57 = true := by kernel_rfl
theorem us57 : (Tryz.prog.underlying 57).isSome = true := by kernel_rfl
theorem s57 : elemSl Tryz.prog 57 = none := by kernel_rfl
theorem ar57 : elemAr Tryz.prog 57 = none := by kernel_rfl
theorem z57 : zeroD Tryz.prog 57 = some (.agg [(.slice []), (.int .i64 0), (.slice []), (.bool false)]) := by kernel_rfl
theorem f57_0 : fieldOf Tryz.prog 57 0 = some (0, 22) := by kernel_rfl
theorem p57_0 : places Tryz.prog 57 0 = some (0, 1) := by kernel_rfl
theorem f57_1 : fieldOf Tryz.prog 57 1 = some (1, 3) := by kernel_rfl
theorem p57_1 : places Tryz.prog 57 1 = some (1, 1) := by kernel_rfl
theorem f57_2 : fieldOf Tryz.prog 57 2 = some (2, 22) := by kernel_rfl
theorem p57_2 : places Tryz.prog 57 2 = some (2, 1) := by kernel_rfl
theorem f57_3 : fieldOf Tryz.prog 57 3 = some (3, 4) := by kernel_rfl
theorem p57_3 : places Tryz.prog 57 3 = some (3, 1) := by kernel_rfl
theorem pu57 : partsU Tryz.prog 57 = true := by kernel_rfl
theorem c60 : Tryz.prog.cellsOf 60 = 4 := by kernel_rfl
theorem b60 : Tryz.prog.bytesOf 60 = 32 := by kernel_rfl
theorem a60 : aggT Tryz.prog 60 = true := by kernel_rfl
theorem us60 : (Tryz.prog.underlying 60).isSome = true := by kernel_rfl
theorem s60 : elemSl Tryz.prog 60 = none := by kernel_rfl
theorem ar60 : elemAr Tryz.prog 60 = none := by kernel_rfl
theorem z60 : zeroD Tryz.prog 60 = some (.agg [(.int .i64 0), (.int .i64 0), (.int .i64 0), (.int .i64 0)]) := by kernel_rfl
theorem f60_0 : fieldOf Tryz.prog 60 0 = some (0, 3) := by kernel_rfl
theorem p60_0 : places Tryz.prog 60 0 = some (0, 1) := by kernel_rfl
theorem f60_1 : fieldOf Tryz.prog 60 1 = some (1, 3) := by kernel_rfl
theorem p60_1 : places Tryz.prog 60 1 = some (1, 1) := by kernel_rfl
theorem f60_2 : fieldOf Tryz.prog 60 2 = some (2, 3) := by kernel_rfl
theorem p60_2 : places Tryz.prog 60 2 = some (2, 1) := by kernel_rfl
theorem f60_3 : fieldOf Tryz.prog 60 3 = some (3, 3) := by kernel_rfl
theorem p60_3 : places Tryz.prog 60 3 = some (3, 1) := by kernel_rfl
theorem pu60 : partsU Tryz.prog 60 = true := by kernel_rfl
theorem c61 : Tryz.prog.cellsOf 61 = 4 := by kernel_rfl
theorem b61 : Tryz.prog.bytesOf 61 = 32 := by kernel_rfl
theorem a61 : aggT Tryz.prog 61 = true := by kernel_rfl
theorem us61 : (Tryz.prog.underlying 61).isSome = true := by kernel_rfl
theorem s61 : elemSl Tryz.prog 61 = none := by kernel_rfl
theorem ar61 : elemAr Tryz.prog 61 = none := by kernel_rfl
theorem z61 : zeroD Tryz.prog 61 = some (.agg [(.int .i64 0), (.int .i64 0), (.int .i64 0), (.int .i64 0)]) := by kernel_rfl
theorem f61_0 : fieldOf Tryz.prog 61 0 = some (0, 3) := by kernel_rfl
theorem p61_0 : places Tryz.prog 61 0 = some (0, 1) := by kernel_rfl
theorem f61_1 : fieldOf Tryz.prog 61 1 = some (1, 3) := by kernel_rfl
theorem p61_1 : places Tryz.prog 61 1 = some (1, 1) := by kernel_rfl
theorem f61_2 : fieldOf Tryz.prog 61 2 = some (2, 3) := by kernel_rfl
theorem p61_2 : places Tryz.prog 61 2 = some (2, 1) := by kernel_rfl
theorem f61_3 : fieldOf Tryz.prog 61 3 = some (3, 3) := by kernel_rfl
theorem p61_3 : places Tryz.prog 61 3 = some (3, 1) := by kernel_rfl
theorem pu61 : partsU Tryz.prog 61 = true := by kernel_rfl
theorem c63 : Tryz.prog.cellsOf 63 = 4 := by kernel_rfl
theorem b63 : Tryz.prog.bytesOf 63 = 32 := by kernel_rfl
theorem a63 : aggT Tryz.prog 63 = true := by kernel_rfl
theorem us63 : (Tryz.prog.underlying 63).isSome = true := by kernel_rfl
theorem s63 : elemSl Tryz.prog 63 = none := by kernel_rfl
theorem ar63 : elemAr Tryz.prog 63 = none := by kernel_rfl
theorem z63 : zeroD Tryz.prog 63 = some (.agg [(.int .i64 0), (.int .i64 0), (.int .i64 0), (.int .i64 0)]) := by kernel_rfl
theorem f63_0 : fieldOf Tryz.prog 63 0 = some (0, 3) := by kernel_rfl
theorem p63_0 : places Tryz.prog 63 0 = some (0, 1) := by kernel_rfl
theorem f63_1 : fieldOf Tryz.prog 63 1 = some (1, 3) := by kernel_rfl
theorem p63_1 : places Tryz.prog 63 1 = some (1, 1) := by kernel_rfl
theorem f63_2 : fieldOf Tryz.prog 63 2 = some (2, 3) := by kernel_rfl
theorem p63_2 : places Tryz.prog 63 2 = some (2, 1) := by kernel_rfl
theorem f63_3 : fieldOf Tryz.prog 63 3 = some (3, 3) := by kernel_rfl
theorem p63_3 : places Tryz.prog 63 3 = some (3, 1) := by kernel_rfl
theorem pu63 : partsU Tryz.prog 63 = true := by kernel_rfl
theorem c64 : Tryz.prog.cellsOf 64 = 1 := by kernel_rfl
theorem b64 : Tryz.prog.bytesOf 64 = 24 := by kernel_rfl
theorem a64 : aggT Tryz.prog 64 = false := by kernel_rfl
theorem us64 : (Tryz.prog.underlying 64).isSome = true := by kernel_rfl
theorem s64 : elemSl Tryz.prog 64 = some 72 := by kernel_rfl
theorem ar64 : elemAr Tryz.prog 64 = none := by kernel_rfl
theorem z64 : zeroD Tryz.prog 64 = some (.slice []) := by kernel_rfl
theorem c72 : Tryz.prog.cellsOf 72 = 1 := by kernel_rfl
theorem b72 : Tryz.prog.bytesOf 72 = 24 := by kernel_rfl
theorem a72 : aggT Tryz.prog 72 = false := by kernel_rfl
theorem us72 : (Tryz.prog.underlying 72).isSome = true := by kernel_rfl
theorem s72 : elemSl Tryz.prog 72 = some 43 := by kernel_rfl
theorem ar72 : elemAr Tryz.prog 72 = none := by kernel_rfl
theorem z72 : zeroD Tryz.prog 72 = some (.slice []) := by kernel_rfl
theorem c75 : Tryz.prog.cellsOf 75 = 4 := by kernel_rfl
theorem b75 : Tryz.prog.bytesOf 75 = 48 := by kernel_rfl
theorem a75 : aggT Tryz.prog 75 = true := by kernel_rfl
theorem us75 : (Tryz.prog.underlying 75).isSome = true := by kernel_rfl
theorem s75 : elemSl Tryz.prog 75 = none := by kernel_rfl
theorem ar75 : elemAr Tryz.prog 75 = none := by kernel_rfl
theorem z75 : zeroD Tryz.prog 75 = some (.agg [(.slice []), (.int .i64 0), (.int .i64 0), (.int .i64 0)]) := by kernel_rfl
theorem f75_0 : fieldOf Tryz.prog 75 0 = some (0, 43) := by kernel_rfl
theorem p75_0 : places Tryz.prog 75 0 = some (0, 1) := by kernel_rfl
theorem f75_1 : fieldOf Tryz.prog 75 1 = some (1, 3) := by kernel_rfl
theorem p75_1 : places Tryz.prog 75 1 = some (1, 1) := by kernel_rfl
theorem f75_2 : fieldOf Tryz.prog 75 2 = some (2, 3) := by kernel_rfl
theorem p75_2 : places Tryz.prog 75 2 = some (2, 1) := by kernel_rfl
theorem f75_3 : fieldOf Tryz.prog 75 3 = some (3, 3) := by kernel_rfl
theorem p75_3 : places Tryz.prog 75 3 = some (3, 1) := by kernel_rfl
theorem pu75 : partsU Tryz.prog 75 = true := by kernel_rfl
theorem c76 : Tryz.prog.cellsOf 76 = 4 := by kernel_rfl
theorem b76 : Tryz.prog.bytesOf 76 = 48 := by kernel_rfl
theorem a76 : aggT Tryz.prog 76 = true := by kernel_rfl
theorem us76 : (Tryz.prog.underlying 76).isSome = true := by kernel_rfl
theorem s76 : elemSl Tryz.prog 76 = none := by kernel_rfl
theorem ar76 : elemAr Tryz.prog 76 = none := by kernel_rfl
theorem z76 : zeroD Tryz.prog 76 = some (.agg [(.slice []), (.int .i64 0), (.int .i64 0), (.int .i64 0)]) := by kernel_rfl
theorem f76_0 : fieldOf Tryz.prog 76 0 = some (0, 43) := by kernel_rfl
theorem p76_0 : places Tryz.prog 76 0 = some (0, 1) := by kernel_rfl
theorem f76_1 : fieldOf Tryz.prog 76 1 = some (1, 3) := by kernel_rfl
theorem p76_1 : places Tryz.prog 76 1 = some (1, 1) := by kernel_rfl
theorem f76_2 : fieldOf Tryz.prog 76 2 = some (2, 3) := by kernel_rfl
theorem p76_2 : places Tryz.prog 76 2 = some (2, 1) := by kernel_rfl
theorem f76_3 : fieldOf Tryz.prog 76 3 = some (3, 3) := by kernel_rfl
theorem p76_3 : places Tryz.prog 76 3 = some (3, 1) := by kernel_rfl
theorem pu76 : partsU Tryz.prog 76 = true := by kernel_rfl
theorem c78 : Tryz.prog.cellsOf 78 = 1 := by kernel_rfl
theorem b78 : Tryz.prog.bytesOf 78 = 24 := by kernel_rfl
theorem a78 : aggT Tryz.prog 78 = false := by kernel_rfl
theorem us78 : (Tryz.prog.underlying 78).isSome = true := by kernel_rfl
theorem s78 : elemSl Tryz.prog 78 = some 4 := by kernel_rfl
theorem ar78 : elemAr Tryz.prog 78 = none := by kernel_rfl
theorem z78 : zeroD Tryz.prog 78 = some (.slice []) := by kernel_rfl
theorem c80 : Tryz.prog.cellsOf 80 = 4 := by kernel_rfl
theorem b80 : Tryz.prog.bytesOf 80 = 48 := by kernel_rfl
theorem a80 : aggT Tryz.prog 80 = true := by kernel_rfl
theorem us80 : (Tryz.prog.underlying 80).isSome = true := by kernel_rfl
theorem s80 : elemSl Tryz.prog 80 = none := by kernel_rfl
theorem ar80 : elemAr Tryz.prog 80 = none := by kernel_rfl
theorem z80 : zeroD Tryz.prog 80 = some (.agg [(.slice []), (.int .i64 0), (.int .i64 0), (.int .i64 0)]) := by kernel_rfl
theorem f80_0 : fieldOf Tryz.prog 80 0 = some (0, 43) := by kernel_rfl
theorem p80_0 : places Tryz.prog 80 0 = some (0, 1) := by kernel_rfl
theorem f80_1 : fieldOf Tryz.prog 80 1 = some (1, 3) := by kernel_rfl
theorem p80_1 : places Tryz.prog 80 1 = some (1, 1) := by kernel_rfl
theorem f80_2 : fieldOf Tryz.prog 80 2 = some (2, 3) := by kernel_rfl
theorem p80_2 : places Tryz.prog 80 2 = some (2, 1) := by kernel_rfl
theorem f80_3 : fieldOf Tryz.prog 80 3 = some (3, 3) := by kernel_rfl
theorem p80_3 : places Tryz.prog 80 3 = some (3, 1) := by kernel_rfl
theorem pu80 : partsU Tryz.prog 80 = true := by kernel_rfl
theorem c127 : Tryz.prog.cellsOf 127 = 1 := by kernel_rfl
theorem b127 : Tryz.prog.bytesOf 127 = 8 := by kernel_rfl
theorem a127 : aggT Tryz.prog 127 = false := by kernel_rfl
theorem us127 : (Tryz.prog.underlying 127).isSome = true := by kernel_rfl
theorem s127 : elemSl Tryz.prog 127 = none := by kernel_rfl
theorem ar127 : elemAr Tryz.prog 127 = none := by kernel_rfl
theorem k127 : Tryz.prog.underlying 127 = some (.int .u64) := by kernel_rfl
theorem z127 : zeroD Tryz.prog 127 = some (.int .u64 0) := by kernel_rfl
theorem c134 : Tryz.prog.cellsOf 134 = 1 := by kernel_rfl
theorem b134 : Tryz.prog.bytesOf 134 = 8 := by kernel_rfl
theorem a134 : aggT Tryz.prog 134 = false := by kernel_rfl
theorem us134 : (Tryz.prog.underlying 134).isSome = true := by kernel_rfl
theorem s134 : elemSl Tryz.prog 134 = none := by kernel_rfl
theorem ar134 : elemAr Tryz.prog 134 = none := by kernel_rfl
theorem k134 : Tryz.prog.underlying 134 = some (.int .i64) := by kernel_rfl
theorem z134 : zeroD Tryz.prog 134 = some (.int .i64 0) := by kernel_rfl
theorem c141 : Tryz.prog.cellsOf 141 = 1 := by kernel_rfl
theorem b141 : Tryz.prog.bytesOf 141 = 4 := by kernel_rfl
theorem a141 : aggT Tryz.prog 141 = false := by kernel_rfl
theorem us141 : (Tryz.prog.underlying 141).isSome = true := by kernel_rfl
theorem s141 : elemSl Tryz.prog 141 = none := by kernel_rfl
theorem ar141 : elemAr Tryz.prog 141 = none := by kernel_rfl
theorem k141 : Tryz.prog.underlying 141 = some (.int .u32) := by kernel_rfl
theorem z141 : zeroD Tryz.prog 141 = some (.int .u32 0) := by kernel_rfl
theorem c143 : Tryz.prog.cellsOf 143 = 1 := by kernel_rfl
theorem b143 : Tryz.prog.bytesOf 143 = 8 := by kernel_rfl
theorem a143 : aggT Tryz.prog 143 = false := by kernel_rfl
theorem us143 : (Tryz.prog.underlying 143).isSome = true := by kernel_rfl
theorem s143 : elemSl Tryz.prog 143 = none := by kernel_rfl
theorem ar143 : elemAr Tryz.prog 143 = none := by kernel_rfl
theorem k143 : Tryz.prog.underlying 143 = some (.int .u64) := by kernel_rfl
theorem z143 : zeroD Tryz.prog 143 = some (.int .u64 0) := by kernel_rfl
theorem c146 : Tryz.prog.cellsOf 146 = 1 := by kernel_rfl
theorem b146 : Tryz.prog.bytesOf 146 = 8 := by kernel_rfl
theorem a146 : aggT Tryz.prog 146 = false := by kernel_rfl
theorem us146 : (Tryz.prog.underlying 146).isSome = true := by kernel_rfl
theorem s146 : elemSl Tryz.prog 146 = none := by kernel_rfl
theorem ar146 : elemAr Tryz.prog 146 = none := by kernel_rfl
theorem k146 : Tryz.prog.underlying 146 = some (.int .u64) := by kernel_rfl
theorem z146 : zeroD Tryz.prog 146 = some (.int .u64 0) := by kernel_rfl
theorem c150 : Tryz.prog.cellsOf 150 = 1 := by kernel_rfl
theorem b150 : Tryz.prog.bytesOf 150 = 8 := by kernel_rfl
theorem a150 : aggT Tryz.prog 150 = false := by kernel_rfl
theorem us150 : (Tryz.prog.underlying 150).isSome = true := by kernel_rfl
theorem s150 : elemSl Tryz.prog 150 = none := by kernel_rfl
theorem ar150 : elemAr Tryz.prog 150 = none := by kernel_rfl
theorem z150 : zeroD Tryz.prog 150 = some .nilptr := by kernel_rfl
theorem c157 : Tryz.prog.cellsOf 157 = 1 := by kernel_rfl
theorem b157 : Tryz.prog.bytesOf 157 = 8 := by kernel_rfl
theorem a157 : aggT Tryz.prog 157 = false := by kernel_rfl
theorem us157 : (Tryz.prog.underlying 157).isSome = true := by kernel_rfl
theorem s157 : elemSl Tryz.prog 157 = none := by kernel_rfl
theorem ar157 : elemAr Tryz.prog 157 = none := by kernel_rfl
theorem z157 : zeroD Tryz.prog 157 = some .nilptr := by kernel_rfl
theorem c164 : Tryz.prog.cellsOf 164 = 4 := by kernel_rfl
theorem b164 : Tryz.prog.bytesOf 164 = 40 := by kernel_rfl
theorem a164 : aggT Tryz.prog 164 = true := by kernel_rfl
theorem us164 : (Tryz.prog.underlying 164).isSome = true := by kernel_rfl
theorem s164 : elemSl Tryz.prog 164 = none := by kernel_rfl
theorem ar164 : elemAr Tryz.prog 164 = none := by kernel_rfl
theorem z164 : zeroD Tryz.prog 164 = some (.agg [.nilptr, .nilptr, .nilptr, (.str ByteArray.empty)]) := by kernel_rfl
theorem f164_0 : fieldOf Tryz.prog 164 0 = some (0, 17) := by kernel_rfl
theorem p164_0 : places Tryz.prog 164 0 = some (0, 1) := by kernel_rfl
theorem f164_1 : fieldOf Tryz.prog 164 1 = some (1, 17) := by kernel_rfl
theorem p164_1 : places Tryz.prog 164 1 = some (1, 1) := by kernel_rfl
theorem f164_2 : fieldOf Tryz.prog 164 2 = some (2, 17) := by kernel_rfl
theorem p164_2 : places Tryz.prog 164 2 = some (2, 1) := by kernel_rfl
theorem f164_3 : fieldOf Tryz.prog 164 3 = some (3, 9) := by kernel_rfl
theorem p164_3 : places Tryz.prog 164 3 = some (3, 1) := by kernel_rfl
theorem pu164 : partsU Tryz.prog 164 = true := by kernel_rfl
theorem c165 : Tryz.prog.cellsOf 165 = 4 := by kernel_rfl
theorem b165 : Tryz.prog.bytesOf 165 = 40 := by kernel_rfl
theorem a165 : aggT Tryz.prog 165 = true := by kernel_rfl
theorem us165 : (Tryz.prog.underlying 165).isSome = true := by kernel_rfl
theorem s165 : elemSl Tryz.prog 165 = none := by kernel_rfl
theorem ar165 : elemAr Tryz.prog 165 = none := by kernel_rfl
theorem z165 : zeroD Tryz.prog 165 = some (.agg [.nilptr, .nilptr, .nilptr, (.str ByteArray.empty)]) := by kernel_rfl
theorem f165_0 : fieldOf Tryz.prog 165 0 = some (0, 17) := by kernel_rfl
theorem p165_0 : places Tryz.prog 165 0 = some (0, 1) := by kernel_rfl
theorem f165_1 : fieldOf Tryz.prog 165 1 = some (1, 17) := by kernel_rfl
theorem p165_1 : places Tryz.prog 165 1 = some (1, 1) := by kernel_rfl
theorem f165_2 : fieldOf Tryz.prog 165 2 = some (2, 17) := by kernel_rfl
theorem p165_2 : places Tryz.prog 165 2 = some (2, 1) := by kernel_rfl
theorem f165_3 : fieldOf Tryz.prog 165 3 = some (3, 9) := by kernel_rfl
theorem p165_3 : places Tryz.prog 165 3 = some (3, 1) := by kernel_rfl
theorem pu165 : partsU Tryz.prog 165 = true := by kernel_rfl
theorem c166 : Tryz.prog.cellsOf 166 = 0 := by kernel_rfl
theorem b166 : Tryz.prog.bytesOf 166 = 0 := by kernel_rfl
theorem a166 : aggT Tryz.prog 166 = true := by kernel_rfl
theorem us166 : (Tryz.prog.underlying 166).isSome = true := by kernel_rfl
theorem s166 : elemSl Tryz.prog 166 = none := by kernel_rfl
theorem ar166 : elemAr Tryz.prog 166 = some (0, 16) := by kernel_rfl
theorem z166 : zeroD Tryz.prog 166 = some (.agg []) := by kernel_rfl
theorem pu166 : partsU Tryz.prog 166 = true := by kernel_rfl
theorem c167 : Tryz.prog.cellsOf 167 = 0 := by kernel_rfl
theorem b167 : Tryz.prog.bytesOf 167 = 0 := by kernel_rfl
theorem a167 : aggT Tryz.prog 167 = true := by kernel_rfl
theorem us167 : (Tryz.prog.underlying 167).isSome = true := by kernel_rfl
theorem s167 : elemSl Tryz.prog 167 = none := by kernel_rfl
theorem ar167 : elemAr Tryz.prog 167 = none := by kernel_rfl
theorem z167 : zeroD Tryz.prog 167 = some (.agg []) := by kernel_rfl
theorem f167_0 : fieldOf Tryz.prog 167 0 = some (0, 166) := by kernel_rfl
theorem p167_0 : places Tryz.prog 167 0 = some (0, 0) := by kernel_rfl
theorem pu167 : partsU Tryz.prog 167 = true := by kernel_rfl
theorem c168 : Tryz.prog.cellsOf 168 = 0 := by kernel_rfl
theorem b168 : Tryz.prog.bytesOf 168 = 0 := by kernel_rfl
theorem a168 : aggT Tryz.prog 168 = true := by kernel_rfl
theorem us168 : (Tryz.prog.underlying 168).isSome = true := by kernel_rfl
theorem s168 : elemSl Tryz.prog 168 = none := by kernel_rfl
theorem ar168 : elemAr Tryz.prog 168 = none := by kernel_rfl
theorem z168 : zeroD Tryz.prog 168 = some (.agg []) := by kernel_rfl
theorem f168_0 : fieldOf Tryz.prog 168 0 = some (0, 166) := by kernel_rfl
theorem p168_0 : places Tryz.prog 168 0 = some (0, 0) := by kernel_rfl
theorem pu168 : partsU Tryz.prog 168 = true := by kernel_rfl
theorem c170 : Tryz.prog.cellsOf 170 = 1 := by kernel_rfl
theorem b170 : Tryz.prog.bytesOf 170 = 1 := by kernel_rfl
theorem a170 : aggT Tryz.prog 170 = false := by kernel_rfl
theorem us170 : (Tryz.prog.underlying 170).isSome = true := by kernel_rfl
theorem s170 : elemSl Tryz.prog 170 = none := by kernel_rfl
theorem ar170 : elemAr Tryz.prog 170 = none := by kernel_rfl
theorem k170 : Tryz.prog.underlying 170 = some (.int .u8) := by kernel_rfl
theorem z170 : zeroD Tryz.prog 170 = some (.int .u8 0) := by kernel_rfl
theorem c171 : Tryz.prog.cellsOf 171 = 1 := by kernel_rfl
theorem b171 : Tryz.prog.bytesOf 171 = 1 := by kernel_rfl
theorem a171 : aggT Tryz.prog 171 = false := by kernel_rfl
theorem us171 : (Tryz.prog.underlying 171).isSome = true := by kernel_rfl
theorem s171 : elemSl Tryz.prog 171 = none := by kernel_rfl
theorem ar171 : elemAr Tryz.prog 171 = none := by kernel_rfl
theorem k171 : Tryz.prog.underlying 171 = some (.int .u8) := by kernel_rfl
theorem z171 : zeroD Tryz.prog 171 = some (.int .u8 0) := by kernel_rfl
theorem c173 : Tryz.prog.cellsOf 173 = 1 := by kernel_rfl
theorem b173 : Tryz.prog.bytesOf 173 = 8 := by kernel_rfl
theorem a173 : aggT Tryz.prog 173 = false := by kernel_rfl
theorem us173 : (Tryz.prog.underlying 173).isSome = true := by kernel_rfl
theorem s173 : elemSl Tryz.prog 173 = none := by kernel_rfl
theorem ar173 : elemAr Tryz.prog 173 = none := by kernel_rfl
theorem z173 : zeroD Tryz.prog 173 = some .nilptr := by kernel_rfl
theorem c174 : Tryz.prog.cellsOf 174 = 1 := by kernel_rfl
theorem b174 : Tryz.prog.bytesOf 174 = 4 := by kernel_rfl
theorem a174 : aggT Tryz.prog 174 = false := by kernel_rfl
theorem us174 : (Tryz.prog.underlying 174).isSome = true := by kernel_rfl
theorem s174 : elemSl Tryz.prog 174 = none := by kernel_rfl
theorem ar174 : elemAr Tryz.prog 174 = none := by kernel_rfl
theorem k174 : Tryz.prog.underlying 174 = some (.int .i32) := by kernel_rfl
theorem z174 : zeroD Tryz.prog 174 = some (.int .i32 0) := by kernel_rfl
theorem c175 : Tryz.prog.cellsOf 175 = 1 := by kernel_rfl
theorem b175 : Tryz.prog.bytesOf 175 = 4 := by kernel_rfl
theorem a175 : aggT Tryz.prog 175 = false := by kernel_rfl
theorem us175 : (Tryz.prog.underlying 175).isSome = true := by kernel_rfl
theorem s175 : elemSl Tryz.prog 175 = none := by kernel_rfl
theorem ar175 : elemAr Tryz.prog 175 = none := by kernel_rfl
theorem k175 : Tryz.prog.underlying 175 = some (.int .i32) := by kernel_rfl
theorem z175 : zeroD Tryz.prog 175 = some (.int .i32 0) := by kernel_rfl
theorem c176 : Tryz.prog.cellsOf 176 = 11 := by kernel_rfl
theorem b176 : Tryz.prog.bytesOf 176 = 48 := by kernel_rfl
theorem a176 : aggT Tryz.prog 176 = true := by kernel_rfl
theorem us176 : (Tryz.prog.underlying 176).isSome = true := by kernel_rfl
theorem s176 : elemSl Tryz.prog 176 = none := by kernel_rfl
theorem ar176 : elemAr Tryz.prog 176 = none := by kernel_rfl
theorem z176 : zeroD Tryz.prog 176 = some (.agg [(.int .u64 0), (.int .u64 0), (.int .u32 0), (.int .u8 0), (.int .u8 0), (.int .u8 0), (.int .u8 0), .nilfn, .nilptr, (.int .i32 0), (.int .i32 0)]) := by kernel_rfl
theorem f176_0 : fieldOf Tryz.prog 176 0 = some (0, 12) := by kernel_rfl
theorem p176_0 : places Tryz.prog 176 0 = some (0, 1) := by kernel_rfl
theorem f176_1 : fieldOf Tryz.prog 176 1 = some (1, 12) := by kernel_rfl
theorem p176_1 : places Tryz.prog 176 1 = some (1, 1) := by kernel_rfl
theorem f176_2 : fieldOf Tryz.prog 176 2 = some (2, 141) := by kernel_rfl
theorem p176_2 : places Tryz.prog 176 2 = some (2, 1) := by kernel_rfl
theorem f176_3 : fieldOf Tryz.prog 176 3 = some (3, 170) := by kernel_rfl
theorem p176_3 : places Tryz.prog 176 3 = some (3, 1) := by kernel_rfl
theorem f176_4 : fieldOf Tryz.prog 176 4 = some (4, 5) := by kernel_rfl
theorem p176_4 : places Tryz.prog 176 4 = some (4, 1) := by kernel_rfl
theorem f176_5 : fieldOf Tryz.prog 176 5 = some (5, 5) := by kernel_rfl
theorem p176_5 : places Tryz.prog 176 5 = some (5, 1) := by kernel_rfl
theorem f176_6 : fieldOf Tryz.prog 176 6 = some (6, 171) := by kernel_rfl
theorem p176_6 : places Tryz.prog 176 6 = some (6, 1) := by kernel_rfl
theorem f176_7 : fieldOf Tryz.prog 176 7 = some (7, 172) := by kernel_rfl
theorem f176_8 : fieldOf Tryz.prog 176 8 = some (8, 173) := by kernel_rfl
theorem p176_8 : places Tryz.prog 176 8 = some (8, 1) := by kernel_rfl
theorem f176_9 : fieldOf Tryz.prog 176 9 = some (9, 174) := by kernel_rfl
theorem p176_9 : places Tryz.prog 176 9 = some (9, 1) := by kernel_rfl
theorem f176_10 : fieldOf Tryz.prog 176 10 = some (10, 175) := by kernel_rfl
theorem p176_10 : places Tryz.prog 176 10 = some (10, 1) := by kernel_rfl
theorem pu176 : partsU Tryz.prog 176 = true := by kernel_rfl
theorem c177 : Tryz.prog.cellsOf 177 = 11 := by kernel_rfl
theorem b177 : Tryz.prog.bytesOf 177 = 48 := by kernel_rfl
theorem a177 : aggT Tryz.prog 177 = true := by kernel_rfl
theorem us177 : (Tryz.prog.underlying 177).isSome = true := by kernel_rfl
theorem s177 : elemSl Tryz.prog 177 = none := by kernel_rfl
theorem ar177 : elemAr Tryz.prog 177 = none := by kernel_rfl
theorem z177 : zeroD Tryz.prog 177 = some (.agg [(.int .u64 0), (.int .u64 0), (.int .u32 0), (.int .u8 0), (.int .u8 0), (.int .u8 0), (.int .u8 0), .nilfn, .nilptr, (.int .i32 0), (.int .i32 0)]) := by kernel_rfl
theorem f177_0 : fieldOf Tryz.prog 177 0 = some (0, 12) := by kernel_rfl
theorem p177_0 : places Tryz.prog 177 0 = some (0, 1) := by kernel_rfl
theorem f177_1 : fieldOf Tryz.prog 177 1 = some (1, 12) := by kernel_rfl
theorem p177_1 : places Tryz.prog 177 1 = some (1, 1) := by kernel_rfl
theorem f177_2 : fieldOf Tryz.prog 177 2 = some (2, 141) := by kernel_rfl
theorem p177_2 : places Tryz.prog 177 2 = some (2, 1) := by kernel_rfl
theorem f177_3 : fieldOf Tryz.prog 177 3 = some (3, 170) := by kernel_rfl
theorem p177_3 : places Tryz.prog 177 3 = some (3, 1) := by kernel_rfl
theorem f177_4 : fieldOf Tryz.prog 177 4 = some (4, 5) := by kernel_rfl
theorem p177_4 : places Tryz.prog 177 4 = some (4, 1) := by kernel_rfl
theorem f177_5 : fieldOf Tryz.prog 177 5 = some (5, 5) := by kernel_rfl
theorem p177_5 : places Tryz.prog 177 5 = some (5, 1) := by kernel_rfl
theorem f177_6 : fieldOf Tryz.prog 177 6 = some (6, 171) := by kernel_rfl
theorem p177_6 : places Tryz.prog 177 6 = some (6, 1) := by kernel_rfl
theorem f177_7 : fieldOf Tryz.prog 177 7 = some (7, 172) := by kernel_rfl
theorem f177_8 : fieldOf Tryz.prog 177 8 = some (8, 173) := by kernel_rfl
theorem p177_8 : places Tryz.prog 177 8 = some (8, 1) := by kernel_rfl
theorem f177_9 : fieldOf Tryz.prog 177 9 = some (9, 174) := by kernel_rfl
theorem p177_9 : places Tryz.prog 177 9 = some (9, 1) := by kernel_rfl
theorem f177_10 : fieldOf Tryz.prog 177 10 = some (10, 175) := by kernel_rfl
theorem p177_10 : places Tryz.prog 177 10 = some (10, 1) := by kernel_rfl
theorem pu177 : partsU Tryz.prog 177 = true := by kernel_rfl
attribute [go_sem] c2 b2 a2 us2 s2 ar2 k2 z2 c3 b3 a3 us3 s3 ar3 k3 z3 c4 b4 a4 us4 s4 ar4 bo4 z4 c5 b5 a5 us5 s5 ar5 k5 z5 c6 b6 a6 us6 s6 ar6 k6 z6
attribute [go_sem] c7 b7 a7 us7 s7 ar7 z7 f7_0 p7_0 f7_1 p7_1 f7_2 p7_2 f7_3 p7_3 pu7 c8 b8 a8 us8 s8 ar8 z8 f8_0 p8_0 f8_1 p8_1 f8_2 p8_2 f8_3 p8_3 pu8 c9 b9 a9 us9 s9 ar9 st9 z9
attribute [go_sem] c10 b10 a10 us10 s10 ar10 st10 z10 c11 b11 a11 us11 s11 ar11 st11 z11 c12 b12 a12 us12 s12 ar12 k12 z12 c13 b13 a13 us13 s13 ar13 z13 f13_0 p13_0 f13_1 p13_1 pu13 c14 b14 a14 us14
attribute [go_sem] s14 ar14 z14 f14_0 p14_0 f14_1 p14_1 pu14 c15 b15 a15 us15 s15 ar15 z15 c16 b16 a16 us16 s16 ar16 z16 c17 b17 a17 us17 s17 ar17 z17 c18 b18 a18 us18 s18 ar18 z18 f18_0 p18_0 pu18 c19
attribute [go_sem] b19 a19 us19 s19 ar19 z19 f19_0 p19_0 pu19 c21 b21 a21 us21 s21 ar21 k21 z21 c22 b22 a22 us22 s22 ar22 z22 c23 b23 a23 us23 s23 ar23 z23 f23_0 p23_0 f23_1 p23_1 pu23 c24 b24 a24 us24
attribute [go_sem] s24 ar24 z24 f24_0 p24_0 f24_1 p24_1 pu24 c25 b25 a25 us25 s25 ar25 z25 c30 b30 a30 us30 s30 ar30 z30 f30_0 p30_0 f30_1 p30_1 pu30 c32 b32 a32 us32 s32 ar32 z32 c41 b41 a41 us41 s41 ar41
attribute [go_sem] z41 c43 b43 a43 us43 s43 ar43 z43 c46 b46 a46 us46 s46 ar46 z46 c56 b56 a56 us56 s56 ar56 z56 f56_0 p56_0 f56_1 p56_1 f56_2 p56_2 f56_3 p56_3 pu56 c57 b57 a57 us57 s57 ar57 z57 f57_0 p57_0
attribute [go_sem] f57_1 p57_1 f57_2 p57_2 f57_3 p57_3 pu57 c60 b60 a60 us60 s60 ar60 z60 f60_0 p60_0 f60_1 p60_1 f60_2 p60_2 f60_3 p60_3 pu60 c61 b61 a61 us61 s61 ar61 z61 f61_0 p61_0 f61_1 p61_1 f61_2 p61_2 f61_3 p61_3 pu61 c63
attribute [go_sem] b63 a63 us63 s63 ar63 z63 f63_0 p63_0 f63_1 p63_1 f63_2 p63_2 f63_3 p63_3 pu63 c64 b64 a64 us64 s64 ar64 z64 c72 b72 a72 us72 s72 ar72 z72 c75 b75 a75 us75 s75 ar75 z75 f75_0 p75_0 f75_1 p75_1
attribute [go_sem] f75_2 p75_2 f75_3 p75_3 pu75 c76 b76 a76 us76 s76 ar76 z76 f76_0 p76_0 f76_1 p76_1 f76_2 p76_2 f76_3 p76_3 pu76 c78 b78 a78 us78 s78 ar78 z78 c80 b80 a80 us80 s80 ar80 z80 f80_0 p80_0 f80_1 p80_1 f80_2
attribute [go_sem] p80_2 f80_3 p80_3 pu80 c127 b127 a127 us127 s127 ar127 k127 z127 c134 b134 a134 us134 s134 ar134 k134 z134 c141 b141 a141 us141 s141 ar141 k141 z141 c143 b143 a143 us143 s143 ar143 k143 z143 c146 b146 a146 us146
attribute [go_sem] s146 ar146 k146 z146 c150 b150 a150 us150 s150 ar150 z150 c157 b157 a157 us157 s157 ar157 z157 c164 b164 a164 us164 s164 ar164 z164 f164_0 p164_0 f164_1 p164_1 f164_2 p164_2 f164_3 p164_3 pu164 c165 b165 a165 us165 s165 ar165
attribute [go_sem] z165 f165_0 p165_0 f165_1 p165_1 f165_2 p165_2 f165_3 p165_3 pu165 c166 b166 a166 us166 s166 ar166 z166 pu166 c167 b167 a167 us167 s167 ar167 z167 f167_0 p167_0 pu167 c168 b168 a168 us168 s168 ar168 z168 f168_0 p168_0 pu168 c170 b170
attribute [go_sem] a170 us170 s170 ar170 k170 z170 c171 b171 a171 us171 s171 ar171 k171 z171 c173 b173 a173 us173 s173 ar173 z173 c174 b174 a174 us174 s174 ar174 k174 z174 c175 b175 a175 us175 s175 ar175 k175 z175 c176 b176 a176
attribute [go_sem] us176 s176 ar176 z176 f176_0 p176_0 f176_1 p176_1 f176_2 p176_2 f176_3 p176_3 f176_4 p176_4 f176_5 p176_5 f176_6 p176_6 f176_7 f176_8 p176_8 f176_9 p176_9 f176_10 p176_10 pu176 c177 b177 a177 us177 s177 ar177 z177 f177_0 p177_0 f177_1 p177_1 f177_2 p177_2 f177_3
attribute [go_sem] p177_3 f177_4 p177_4 f177_5 p177_5 f177_6 p177_6 f177_7 f177_8 p177_8 f177_9 p177_9 f177_10 p177_10 pu177
end Abs.Y.Ty
