/- The facts on the types of this seat that the abstract walk asks for, by program. No condition. -/
import Derived.Test.YtailofgkfldepaaAbsLib
import Derived.Test.YtailofgkfldepaaAbsRow
import Derived.Test.YtailofgkfldepaaChecked
set_option linter.all false
namespace Abs.Y.Ty
open Go Go.Proofs Abs
theorem c2 : Try.prog.cellsOf 2 = 1 := by kernel_rfl
theorem b2 : Try.prog.bytesOf 2 = 8 := by kernel_rfl
theorem a2 : aggT Try.prog 2 = false := by kernel_rfl
theorem us2 : (Try.prog.underlying 2).isSome = true := by kernel_rfl
theorem s2 : elemSl Try.prog 2 = none := by kernel_rfl
theorem ar2 : elemAr Try.prog 2 = none := by kernel_rfl
theorem k2 : Try.prog.underlying 2 = some (.int .i64) := by kernel_rfl
theorem z2 : zeroD Try.prog 2 = some (.int .i64 0) := by kernel_rfl
theorem c3 : Try.prog.cellsOf 3 = 1 := by kernel_rfl
theorem b3 : Try.prog.bytesOf 3 = 8 := by kernel_rfl
theorem a3 : aggT Try.prog 3 = false := by kernel_rfl
theorem us3 : (Try.prog.underlying 3).isSome = true := by kernel_rfl
theorem s3 : elemSl Try.prog 3 = none := by kernel_rfl
theorem ar3 : elemAr Try.prog 3 = none := by kernel_rfl
theorem k3 : Try.prog.underlying 3 = some (.int .i64) := by kernel_rfl
theorem z3 : zeroD Try.prog 3 = some (.int .i64 0) := by kernel_rfl
theorem c4 : Try.prog.cellsOf 4 = 1 := by kernel_rfl
theorem b4 : Try.prog.bytesOf 4 = 1 := by kernel_rfl
theorem a4 : aggT Try.prog 4 = false := by kernel_rfl
theorem us4 : (Try.prog.underlying 4).isSome = true := by kernel_rfl
theorem s4 : elemSl Try.prog 4 = none := by kernel_rfl
theorem ar4 : elemAr Try.prog 4 = none := by kernel_rfl
theorem bo4 : isBoolT Try.prog 4 = true := by kernel_rfl
theorem z4 : zeroD Try.prog 4 = some (.bool false) := by kernel_rfl
theorem c5 : Try.prog.cellsOf 5 = 1 := by kernel_rfl
theorem b5 : Try.prog.bytesOf 5 = 1 := by kernel_rfl
theorem a5 : aggT Try.prog 5 = false := by kernel_rfl
theorem us5 : (Try.prog.underlying 5).isSome = true := by kernel_rfl
theorem s5 : elemSl Try.prog 5 = none := by kernel_rfl
theorem ar5 : elemAr Try.prog 5 = none := by kernel_rfl
theorem k5 : Try.prog.underlying 5 = some (.int .u8) := by kernel_rfl
theorem z5 : zeroD Try.prog 5 = some (.int .u8 0) := by kernel_rfl
theorem c6 : Try.prog.cellsOf 6 = 1 := by kernel_rfl
theorem b6 : Try.prog.bytesOf 6 = 1 := by kernel_rfl
theorem a6 : aggT Try.prog 6 = false := by kernel_rfl
theorem us6 : (Try.prog.underlying 6).isSome = true := by kernel_rfl
theorem s6 : elemSl Try.prog 6 = none := by kernel_rfl
theorem ar6 : elemAr Try.prog 6 = none := by kernel_rfl
theorem k6 : Try.prog.underlying 6 = some (.int .u8) := by kernel_rfl
theorem z6 : zeroD Try.prog 6 = some (.int .u8 0) := by kernel_rfl
theorem c7 : Try.prog.cellsOf 7 = 4 := by kernel_rfl
theorem b7 : Try.prog.bytesOf 7 = 24 := by kernel_rfl
theorem a7 : aggT Try.prog 7 = true := by kernel_rfl
theorem us7 : (Try.prog.underlying 7).isSome = true := by kernel_rfl
theorem s7 : elemSl Try.prog 7 = none := by kernel_rfl
theorem ar7 : elemAr Try.prog 7 = none := by kernel_rfl
theorem z7 : zeroD Try.prog 7 = some (.agg [(.int .i64 0), (.int .i64 0), (.bool false), (.int .u8 0)]) := by kernel_rfl
theorem f7_0 : fieldOf Try.prog 7 0 = some (0, 2) := by kernel_rfl
theorem p7_0 : places Try.prog 7 0 = some (0, 1) := by kernel_rfl
theorem f7_1 : fieldOf Try.prog 7 1 = some (1, 3) := by kernel_rfl
theorem p7_1 : places Try.prog 7 1 = some (1, 1) := by kernel_rfl
theorem f7_2 : fieldOf Try.prog 7 2 = some (2, 4) := by kernel_rfl
theorem p7_2 : places Try.prog 7 2 = some (2, 1) := by kernel_rfl
theorem f7_3 : fieldOf Try.prog 7 3 = some (3, 6) := by kernel_rfl
theorem p7_3 : places Try.prog 7 3 = some (3, 1) := by kernel_rfl
theorem pu7 : partsU Try.prog 7 = true := by kernel_rfl
theorem c8 : Try.prog.cellsOf 8 = 4 := by kernel_rfl
theorem b8 : Try.prog.bytesOf 8 = 24 := by kernel_rfl
theorem a8 : aggT Try.prog 8 = true := by kernel_rfl
theorem us8 : (Try.prog.underlying 8).isSome = true := by kernel_rfl
theorem s8 : elemSl Try.prog 8 = none := by kernel_rfl
theorem ar8 : elemAr Try.prog 8 = none := by kernel_rfl
theorem z8 : zeroD Try.prog 8 = some (.agg [(.int .i64 0), (.int .i64 0), (.bool false), (.int .u8 0)]) := by kernel_rfl
theorem f8_0 : fieldOf Try.prog 8 0 = some (0, 2) := by kernel_rfl
theorem p8_0 : places Try.prog 8 0 = some (0, 1) := by kernel_rfl
theorem f8_1 : fieldOf Try.prog 8 1 = some (1, 3) := by kernel_rfl
theorem p8_1 : places Try.prog 8 1 = some (1, 1) := by kernel_rfl
theorem f8_2 : fieldOf Try.prog 8 2 = some (2, 4) := by kernel_rfl
theorem p8_2 : places Try.prog 8 2 = some (2, 1) := by kernel_rfl
theorem f8_3 : fieldOf Try.prog 8 3 = some (3, 6) := by kernel_rfl
theorem p8_3 : places Try.prog 8 3 = some (3, 1) := by kernel_rfl
theorem pu8 : partsU Try.prog 8 = true := by kernel_rfl
theorem c9 : Try.prog.cellsOf 9 = 1 := by kernel_rfl
theorem b9 : Try.prog.bytesOf 9 = 16 := by kernel_rfl
theorem a9 : aggT Try.prog 9 = false := by kernel_rfl
theorem us9 : (Try.prog.underlying 9).isSome = true := by kernel_rfl
theorem s9 : elemSl Try.prog 9 = none := by kernel_rfl
theorem ar9 : elemAr Try.prog 9 = none := by kernel_rfl
theorem st9 : isStrT Try.prog 9 = true := by kernel_rfl
theorem z9 : zeroD Try.prog 9 = some (.str ByteArray.empty) := by kernel_rfl
theorem c10 : Try.prog.cellsOf 10 = 1 := by kernel_rfl
theorem b10 : Try.prog.bytesOf 10 = 16 := by kernel_rfl
theorem a10 : aggT Try.prog 10 = false := by kernel_rfl
theorem us10 : (Try.prog.underlying 10).isSome = true := by kernel_rfl
theorem s10 : elemSl Try.prog 10 = none := by kernel_rfl
theorem ar10 : elemAr Try.prog 10 = none := by kernel_rfl
theorem st10 : isStrT Try.prog 10 = true := by kernel_rfl
theorem z10 : zeroD Try.prog 10 = some (.str ByteArray.empty) := by kernel_rfl
theorem c11 : Try.prog.cellsOf 11 = 1 := by kernel_rfl
theorem b11 : Try.prog.bytesOf 11 = 16 := by kernel_rfl
theorem a11 : aggT Try.prog 11 = false := by kernel_rfl
theorem us11 : (Try.prog.underlying 11).isSome = true := by kernel_rfl
theorem s11 : elemSl Try.prog 11 = none := by kernel_rfl
theorem ar11 : elemAr Try.prog 11 = none := by kernel_rfl
theorem st11 : isStrT Try.prog 11 = true := by kernel_rfl
theorem z11 : zeroD Try.prog 11 = some (.str ByteArray.empty) := by kernel_rfl
theorem c12 : Try.prog.cellsOf 12 = 1 := by kernel_rfl
theorem b12 : Try.prog.bytesOf 12 = 8 := by kernel_rfl
theorem a12 : aggT Try.prog 12 = false := by kernel_rfl
theorem us12 : (Try.prog.underlying 12).isSome = true := by kernel_rfl
theorem s12 : elemSl Try.prog 12 = none := by kernel_rfl
theorem ar12 : elemAr Try.prog 12 = none := by kernel_rfl
theorem k12 : Try.prog.underlying 12 = some (.int .u64) := by kernel_rfl
theorem z12 : zeroD Try.prog 12 = some (.int .u64 0) := by kernel_rfl
theorem c13 : Try.prog.cellsOf 13 = 2 := by kernel_rfl
theorem b13 : Try.prog.bytesOf 13 = 24 := by kernel_rfl
theorem a13 : aggT Try.prog 13 = true := by kernel_rfl
theorem us13 : (Try.prog.underlying 13).isSome = true := by kernel_rfl
theorem s13 : elemSl Try.prog 13 = none := by kernel_rfl
theorem ar13 : elemAr Try.prog 13 = none := by kernel_rfl
theorem z13 : zeroD Try.prog 13 = some (.agg [(.str ByteArray.empty), (.int .u64 0)]) := by kernel_rfl
theorem f13_0 : fieldOf Try.prog 13 0 = some (0, 9) := by kernel_rfl
theorem p13_0 : places Try.prog 13 0 = some (0, 1) := by kernel_rfl
theorem f13_1 : fieldOf Try.prog 13 1 = some (1, 12) := by kernel_rfl
theorem p13_1 : places Try.prog 13 1 = some (1, 1) := by kernel_rfl
theorem pu13 : partsU Try.prog 13 = true := by kernel_rfl
theorem c14 : Try.prog.cellsOf 14 = 2 := by kernel_rfl
theorem b14 : Try.prog.bytesOf 14 = 24 := by kernel_rfl
theorem a14 : aggT Try.prog 14 = true := by kernel_rfl
theorem us14 : (Try.prog.underlying 14).isSome = true := by kernel_rfl
theorem s14 : elemSl Try.prog 14 = none := by kernel_rfl
theorem ar14 : elemAr Try.prog 14 = none := by kernel_rfl
theorem z14 : zeroD Try.prog 14 = some (.agg [(.str ByteArray.empty), (.int .u64 0)]) := by kernel_rfl
theorem f14_0 : fieldOf Try.prog 14 0 = some (0, 9) := by kernel_rfl
theorem p14_0 : places Try.prog 14 0 = some (0, 1) := by kernel_rfl
theorem f14_1 : fieldOf Try.prog 14 1 = some (1, 12) := by kernel_rfl
theorem p14_1 : places Try.prog 14 1 = some (1, 1) := by kernel_rfl
theorem pu14 : partsU Try.prog 14 = true := by kernel_rfl
theorem c15 : Try.prog.cellsOf 15 = 1 := by kernel_rfl
theorem b15 : Try.prog.bytesOf 15 = 8 := by kernel_rfl
theorem a15 : aggT Try.prog 15 = false := by kernel_rfl
theorem us15 : (Try.prog.underlying 15).isSome = true := by kernel_rfl
theorem s15 : elemSl Try.prog 15 = none := by kernel_rfl
theorem ar15 : elemAr Try.prog 15 = none := by kernel_rfl
theorem z15 : zeroD Try.prog 15 = some .nilptr := by kernel_rfl
theorem c16 : Try.prog.cellsOf 16 = 1 := by kernel_rfl
theorem b16 : Try.prog.bytesOf 16 = 8 := by kernel_rfl
theorem a16 : aggT Try.prog 16 = false := by kernel_rfl
theorem us16 : (Try.prog.underlying 16).isSome = true := by kernel_rfl
theorem s16 : elemSl Try.prog 16 = none := by kernel_rfl
theorem ar16 : elemAr Try.prog 16 = none := by kernel_rfl
theorem z16 : zeroD Try.prog 16 = some .nilptr := by kernel_rfl
theorem c17 : Try.prog.cellsOf 17 = 1 := by kernel_rfl
theorem b17 : Try.prog.bytesOf 17 = 8 := by kernel_rfl
theorem a17 : aggT Try.prog 17 = false := by kernel_rfl
theorem us17 : (Try.prog.underlying 17).isSome = true := by kernel_rfl
theorem s17 : elemSl Try.prog 17 = none := by kernel_rfl
theorem ar17 : elemAr Try.prog 17 = none := by kernel_rfl
theorem z17 : zeroD Try.prog 17 = some .nilptr := by kernel_rfl
theorem c18 : Try.prog.cellsOf 18 = 1 := by kernel_rfl
theorem b18 : Try.prog.bytesOf 18 = 8 := by kernel_rfl
theorem a18 : aggT Try.prog 18 = true := by kernel_rfl
theorem us18 : (Try.prog.underlying 18).isSome = true := by kernel_rfl
theorem s18 : elemSl Try.prog 18 = none := by kernel_rfl
theorem ar18 : elemAr Try.prog 18 = none := by kernel_rfl
theorem z18 : zeroD Try.prog 18 = some (.agg [.nilptr]) := by kernel_rfl
theorem f18_0 : fieldOf Try.prog 18 0 = some (0, 17) := by kernel_rfl
theorem p18_0 : places Try.prog 18 0 = some (0, 1) := by kernel_rfl
theorem pu18 : partsU Try.prog 18 = true := by kernel_rfl
theorem c19 : Try.prog.cellsOf 19 = 1 := by kernel_rfl
theorem b19 : Try.prog.bytesOf 19 = 8 := by kernel_rfl
theorem a19 : aggT Try.prog 19 = true := by kernel_rfl
theorem us19 : (Try.prog.underlying 19).isSome = true := by kernel_rfl
theorem s19 : elemSl Try.prog 19 = none := by kernel_rfl
theorem ar19 : elemAr Try.prog 19 = none := by kernel_rfl
theorem z19 : zeroD Try.prog 19 = some (.agg [.nilptr]) := by kernel_rfl
theorem f19_0 : fieldOf Try.prog 19 0 = some (0, 17) := by kernel_rfl
theorem p19_0 : places Try.prog 19 0 = some (0, 1) := by kernel_rfl
theorem pu19 : partsU Try.prog 19 = true := by kernel_rfl
theorem c21 : Try.prog.cellsOf 21 = 1 := by kernel_rfl
theorem b21 : Try.prog.bytesOf 21 = 4 := by kernel_rfl
theorem a21 : aggT Try.prog 21 = false := by kernel_rfl
theorem us21 : (Try.prog.underlying 21).isSome = true := by kernel_rfl
theorem s21 : elemSl Try.prog 21 = none := by kernel_rfl
theorem ar21 : elemAr Try.prog 21 = none := by kernel_rfl
theorem k21 : Try.prog.underlying 21 = some (.int .i32) := by kernel_rfl
theorem z21 : zeroD Try.prog 21 = some (.int .i32 0) := by kernel_rfl
theorem c22 : Try.prog.cellsOf 22 = 1 := by kernel_rfl
theorem b22 : Try.prog.bytesOf 22 = 24 := by kernel_rfl
theorem a22 : aggT Try.prog 22 = false := by kernel_rfl
theorem us22 : (Try.prog.underlying 22).isSome = true := by kernel_rfl
theorem s22 : elemSl Try.prog 22 = some 118 := by kernel_rfl
theorem ar22 : elemAr Try.prog 22 = none := by kernel_rfl
theorem z22 : zeroD Try.prog 22 = some (.slice []) := by kernel_rfl
theorem c23 : Try.prog.cellsOf 23 = 1 := by kernel_rfl
theorem b23 : Try.prog.bytesOf 23 = 24 := by kernel_rfl
theorem a23 : aggT Try.prog 23 = false := by kernel_rfl
theorem us23 : (Try.prog.underlying 23).isSome = true := by kernel_rfl
theorem s23 : elemSl Try.prog 23 = some 3 := by kernel_rfl
theorem ar23 : elemAr Try.prog 23 = none := by kernel_rfl
theorem z23 : zeroD Try.prog 23 = some (.slice []) := by kernel_rfl
theorem c24 : Try.prog.cellsOf 24 = 3 := by kernel_rfl
theorem b24 : Try.prog.bytesOf 24 = 56 := by kernel_rfl
theorem a24 : aggT Try.prog 24 = true := by kernel_rfl
theorem us24 : (Try.prog.underlying 24).isSome = true := by kernel_rfl
theorem s24 : elemSl Try.prog 24 = none := by kernel_rfl
theorem ar24 : elemAr Try.prog 24 = none := by kernel_rfl
theorem z24 : zeroD Try.prog 24 = some (.agg [(.int .i64 0), (.slice []), (.slice [])]) := by kernel_rfl
theorem f24_0 : fieldOf Try.prog 24 0 = some (0, 3) := by kernel_rfl
theorem p24_0 : places Try.prog 24 0 = some (0, 1) := by kernel_rfl
theorem f24_1 : fieldOf Try.prog 24 1 = some (1, 22) := by kernel_rfl
theorem p24_1 : places Try.prog 24 1 = some (1, 1) := by kernel_rfl
theorem f24_2 : fieldOf Try.prog 24 2 = some (2, 23) := by kernel_rfl
theorem p24_2 : places Try.prog 24 2 = some (2, 1) := by kernel_rfl
theorem pu24 : partsU Try.prog 24 = true := by kernel_rfl
theorem c25 : Try.prog.cellsOf 25 = 3 := by kernel_rfl
theorem b25 : Try.prog.bytesOf 25 = 56 := by kernel_rfl
theorem a25 : aggT Try.prog 25 = true := by kernel_rfl
theorem us25 : (Try.prog.underlying 25).isSome = true := by kernel_rfl
theorem s25 : elemSl Try.prog 25 = none := by kernel_rfl
theorem ar25 : elemAr Try.prog 25 = none := by kernel_rfl
theorem z25 : zeroD Try.prog 25 = some (.agg [(.int .i64 0), (.slice []), (.slice [])]) := by kernel_rfl
theorem f25_0 : fieldOf Try.prog 25 0 = some (0, 3) := by kernel_rfl
theorem p25_0 : places Try.prog 25 0 = some (0, 1) := by kernel_rfl
theorem f25_1 : fieldOf Try.prog 25 1 = some (1, 22) := by kernel_rfl
theorem p25_1 : places Try.prog 25 1 = some (1, 1) := by kernel_rfl
theorem f25_2 : fieldOf Try.prog 25 2 = some (2, 23) := by kernel_rfl
theorem p25_2 : places Try.prog 25 2 = some (2, 1) := by kernel_rfl
theorem pu25 : partsU Try.prog 25 = true := by kernel_rfl
theorem c27 : Try.prog.cellsOf 27 = 1 := by kernel_rfl
theorem b27 : Try.prog.bytesOf 27 = 24 := by kernel_rfl
theorem a27 : aggT Try.prog 27 = false := by kernel_rfl
theorem us27 : (Try.prog.underlying 27).isSome = true := by kernel_rfl
theorem s27 : elemSl Try.prog 27 = some 23 := by kernel_rfl
theorem ar27 : elemAr Try.prog 27 = none := by kernel_rfl
theorem z27 : zeroD Try.prog 27 = some (.slice []) := by kernel_rfl
theorem c30 : Try.prog.cellsOf 30 = 3 := by kernel_rfl
theorem b30 : Try.prog.bytesOf 30 = 56 := by kernel_rfl
theorem a30 : aggT Try.prog 30 = true := by kernel_rfl
theorem us30 : (Try.prog.underlying 30).isSome = true := by kernel_rfl
theorem s30 : elemSl Try.prog 30 = none := by kernel_rfl
theorem ar30 : elemAr Try.prog 30 = none := by kernel_rfl
theorem z30 : zeroD Try.prog 30 = some (.agg [(.int .i64 0), (.slice []), (.slice [])]) := by kernel_rfl
theorem f30_0 : fieldOf Try.prog 30 0 = some (0, 3) := by kernel_rfl
theorem p30_0 : places Try.prog 30 0 = some (0, 1) := by kernel_rfl
theorem f30_1 : fieldOf Try.prog 30 1 = some (1, 22) := by kernel_rfl
theorem p30_1 : places Try.prog 30 1 = some (1, 1) := by kernel_rfl
theorem f30_2 : fieldOf Try.prog 30 2 = some (2, 23) := by kernel_rfl
theorem p30_2 : places Try.prog 30 2 = some (2, 1) := by kernel_rfl
theorem pu30 : partsU Try.prog 30 = true := by kernel_rfl
theorem c43 : Try.prog.cellsOf 43 = 2 := by kernel_rfl
theorem b43 : Try.prog.bytesOf 43 = 32 := by kernel_rfl
theorem a43 : aggT Try.prog 43 = true := by kernel_rfl
theorem us43 : (Try.prog.underlying 43).isSome = true := by kernel_rfl
theorem s43 : elemSl Try.prog 43 = none := by kernel_rfl
theorem ar43 : elemAr Try.prog 43 = none := by kernel_rfl
theorem z43 : zeroD Try.prog 43 = some (.agg [(.int .i64 0), (.slice [])]) := by kernel_rfl
theorem f43_0 : fieldOf Try.prog 43 0 = some (0, 3) := by kernel_rfl
theorem p43_0 : places Try.prog 43 0 = some (0, 1) := by kernel_rfl
theorem f43_1 : fieldOf Try.prog 43 1 = some (1, 27) := by kernel_rfl
theorem p43_1 : places Try.prog 43 1 = some (1, 1) := by kernel_rfl
theorem pu43 : partsU Try.prog 43 = true := by kernel_rfl
theorem c44 : Try.prog.cellsOf 44 = 2 := by kernel_rfl
theorem b44 : Try.prog.bytesOf 44 = 32 := by kernel_rfl
theorem a44 : aggT Try.prog 44 = true := by kernel_rfl
theorem us44 : (Try.prog.underlying 44).isSome = true := by kernel_rfl
theorem s44 : elemSl Try.prog 44 = none := by kernel_rfl
theorem ar44 : elemAr Try.prog 44 = none := by kernel_rfl
theorem z44 : zeroD Try.prog 44 = some (.agg [(.int .i64 0), (.slice [])]) := by kernel_rfl
theorem f44_0 : fieldOf Try.prog 44 0 = some (0, 3) := by kernel_rfl
theorem p44_0 : places Try.prog 44 0 = some (0, 1) := by kernel_rfl
theorem f44_1 : fieldOf Try.prog 44 1 = some (1, 27) := by kernel_rfl
theorem p44_1 : places Try.prog 44 1 = some (1, 1) := by kernel_rfl
theorem pu44 : partsU Try.prog 44 = true := by kernel_rfl
theorem c46 : Try.prog.cellsOf 46 = 2 := by kernel_rfl
theorem b46 : Try.prog.bytesOf 46 = 32 := by kernel_rfl
theorem a46 : aggT Try.prog 46 = true := by kernel_rfl
theorem us46 : (Try.prog.underlying 46).isSome = true := by kernel_rfl
theorem s46 : elemSl Try.prog 46 = none := by kernel_rfl
theorem ar46 : elemAr Try.prog 46 = none := by kernel_rfl
theorem z46 : zeroD Try.prog 46 = some (.agg [(.int .i64 0), (.slice [])]) := by kernel_rfl
theorem f46_0 : fieldOf Try.prog 46 0 = some (0, 3) := by kernel_rfl
theorem p46_0 : places Try.prog 46 0 = some (0, 1) := by kernel_rfl
theorem f46_1 : fieldOf Try.prog 46 1 = some (1, 27) := by kernel_rfl
theorem p46_1 : places Try.prog 46 1 = some (1, 1) := by kernel_rfl
theorem pu46 : partsU Try.prog 46 = true := by kernel_rfl
theorem c53 : Try.prog.cellsOf 53 = 1 := by kernel_rfl
theorem b53 : Try.prog.bytesOf 53 = 24 := by kernel_rfl
theorem a53 : aggT Try.prog 53 = false := by kernel_rfl
theorem us53 : (Try.prog.underlying 53).isSome = true := by kernel_rfl
theorem s53 : elemSl Try.prog 53 = some 105 := by kernel_rfl
theorem ar53 : elemAr Try.prog 53 = none := by kernel_rfl
theorem z53 : zeroD Try.prog 53 = some (.slice []) := by kernel_rfl
theorem c61 : Try.prog.cellsOf 61 = 1 := by kernel_rfl
theorem b61 : Try.prog.bytesOf 61 = 24 := by kernel_rfl
theorem a61 : aggT Try.prog 61 = false := by kernel_rfl
theorem us61 : (Try.prog.underlying 61).isSome = true := by kernel_rfl
theorem s61 : elemSl Try.prog 61 = some 114 := by kernel_rfl
theorem ar61 : elemAr Try.prog 61 = none := by kernel_rfl
theorem z61 : zeroD Try.prog 61 = some (.slice []) := by kernel_rfl
theorem c78 : Try.prog.cellsOf 78 = 1 := by kernel_rfl
theorem b78 : Try.prog.bytesOf 78 = 24 := by kernel_rfl
theorem a78 : aggT Try.prog 78 = false := by kernel_rfl
theorem us78 : (Try.prog.underlying 78).isSome = true := by kernel_rfl
theorem s78 : elemSl Try.prog 78 = some 80 := by kernel_rfl
theorem ar78 : elemAr Try.prog 78 = none := by kernel_rfl
theorem z78 : zeroD Try.prog 78 = some (.slice []) := by kernel_rfl
theorem c80 : Try.prog.cellsOf 80 = 1 := by kernel_rfl
theorem b80 : Try.prog.bytesOf 80 = 24 := by kernel_rfl
theorem a80 : aggT Try.prog 80 = false := by kernel_rfl
theorem us80 : (Try.prog.underlying 80).isSome = true := by kernel_rfl
theorem s80 : elemSl Try.prog 80 = some 85 := by kernel_rfl
theorem ar80 : elemAr Try.prog 80 = none := by kernel_rfl
theorem z80 : zeroD Try.prog 80 = some (.slice []) := by kernel_rfl
theorem c84 : Try.prog.cellsOf 84 = 2 := by kernel_rfl
theorem b84 : Try.prog.bytesOf 84 = 16 := by kernel_rfl
theorem a84 : aggT Try.prog 84 = true := by kernel_rfl
theorem us84 : (Try.prog.underlying 84).isSome = true := by kernel_rfl
theorem s84 : elemSl Try.prog 84 = none := by kernel_rfl
theorem ar84 : elemAr Try.prog 84 = none := by kernel_rfl
theorem z84 : zeroD Try.prog 84 = some (.agg [(.int .i64 0), (.int .i64 0)]) := by kernel_rfl
theorem f84_0 : fieldOf Try.prog 84 0 = some (0, 3) := by kernel_rfl
theorem p84_0 : places Try.prog 84 0 = some (0, 1) := by kernel_rfl
theorem f84_1 : fieldOf Try.prog 84 1 = some (1, 3) := by kernel_rfl
theorem p84_1 : places Try.prog 84 1 = some (1, 1) := by kernel_rfl
theorem pu84 : partsU Try.prog 84 = true := by kernel_rfl
theorem c85 : Try.prog.cellsOf 85 = 2 := by kernel_rfl
theorem b85 : Try.prog.bytesOf 85 = 16 := by kernel_rfl
theorem a85 : aggT Try.prog 85 = true := by kernel_rfl
theorem us85 : (Try.prog.underlying 85).isSome = true := by kernel_rfl
theorem s85 : elemSl Try.prog 85 = none := by kernel_rfl
theorem ar85 : elemAr Try.prog 85 = none := by kernel_rfl
theorem z85 : zeroD Try.prog 85 = some (.agg [(.int .i64 0), (.int .i64 0)]) := by kernel_rfl
theorem f85_0 : fieldOf Try.prog 85 0 = some (0, 3) := by kernel_rfl
theorem p85_0 : places Try.prog 85 0 = some (0, 1) := by kernel_rfl
theorem f85_1 : fieldOf Try.prog 85 1 = some (1, 3) := by kernel_rfl
theorem p85_1 : places Try.prog 85 1 = some (1, 1) := by kernel_rfl
theorem pu85 : partsU Try.prog 85 = true := by kernel_rfl
theorem c97 : Try.prog.cellsOf 97 = 1 := by kernel_rfl
theorem b97 : Try.prog.bytesOf 97 = 8 := by kernel_rfl
theorem a97 : aggT Try.prog 97 = false := by kernel_rfl
theorem us97 : (Try.prog.underlying 97).isSome = true := by kernel_rfl
theorem s97 : elemSl Try.prog 97 = none := by kernel_rfl
theorem ar97 : elemAr Try.prog 97 = none := by kernel_rfl
theorem z97 : zeroD Try.prog 97 = some .nilptr := by kernel_rfl
theorem c98 : Try.prog.cellsOf 98 = 2 := by kernel_rfl
theorem b98 : Try.prog.bytesOf 98 = 32 := by kernel_rfl
theorem a98 : aggT Try.prog 98 = true := by kernel_rfl
theorem us98 : (Try.prog.underlying 98).isSome = true := by kernel_rfl
theorem s98 : elemSl Try.prog 98 = none := by kernel_rfl
theorem ar98 : elemAr Try.prog 98 = none := by kernel_rfl
theorem z98 : zeroD Try.prog 98 = some (.agg [(.int .i64 0), (.slice [])]) := by kernel_rfl
theorem f98_0 : fieldOf Try.prog 98 0 = some (0, 3) := by kernel_rfl
theorem p98_0 : places Try.prog 98 0 = some (0, 1) := by kernel_rfl
theorem f98_1 : fieldOf Try.prog 98 1 = some (1, 53) := by kernel_rfl
theorem p98_1 : places Try.prog 98 1 = some (1, 1) := by kernel_rfl
theorem pu98 : partsU Try.prog 98 = true := by kernel_rfl
theorem c99 : Try.prog.cellsOf 99 = 2 := by kernel_rfl
theorem b99 : Try.prog.bytesOf 99 = 32 := by kernel_rfl
theorem a99 : aggT Try.prog 99 = true := by kernel_rfl
theorem us99 : (Try.prog.underlying 99).isSome = true := by kernel_rfl
theorem s99 : elemSl Try.prog 99 = none := by kernel_rfl
theorem ar99 : elemAr Try.prog 99 = none := by kernel_rfl
theorem z99 : zeroD Try.prog 99 = some (.agg [(.int .i64 0), (.slice [])]) := by kernel_rfl
theorem f99_0 : fieldOf Try.prog 99 0 = some (0, 3) := by kernel_rfl
theorem p99_0 : places Try.prog 99 0 = some (0, 1) := by kernel_rfl
theorem f99_1 : fieldOf Try.prog 99 1 = some (1, 53) := by kernel_rfl
theorem p99_1 : places Try.prog 99 1 = some (1, 1) := by kernel_rfl
theorem pu99 : partsU Try.prog 99 = true := by kernel_rfl
theorem c102 : Try.prog.cellsOf 102 = 2 := by kernel_rfl
theorem b102 : Try.prog.bytesOf 102 = 32 := by kernel_rfl
theorem a102 : aggT Try.prog 102 = true := by kernel_rfl
theorem us102 : (Try.prog.underlying 102).isSome = true := by kernel_rfl
theorem s102 : elemSl Try.prog 102 = none := by kernel_rfl
theorem ar102 : elemAr Try.prog 102 = none := by kernel_rfl
theorem z102 : zeroD Try.prog 102 = some (.agg [(.slice []), (.int .i64 0)]) := by kernel_rfl
theorem f102_0 : fieldOf Try.prog 102 0 = some (0, 23) := by kernel_rfl
theorem p102_0 : places Try.prog 102 0 = some (0, 1) := by kernel_rfl
theorem f102_1 : fieldOf Try.prog 102 1 = some (1, 3) := by kernel_rfl
theorem p102_1 : places Try.prog 102 1 = some (1, 1) := by kernel_rfl
theorem pu102 : partsU Try.prog 102 = true := by kernel_rfl
theorem c103 : Try.prog.cellsOf 103 = 2 := by kernel_rfl
theorem b103 : Try.prog.bytesOf 103 = 32 := by kernel_rfl
theorem a103 : aggT Try.prog 103 = true := by kernel_rfl
theorem us103 : (Try.prog.underlying 103).isSome = true := by kernel_rfl
theorem s103 : elemSl Try.prog 103 = none := by kernel_rfl
theorem ar103 : elemAr Try.prog 103 = none := by kernel_rfl
theorem z103 : zeroD Try.prog 103 = some (.agg [(.slice []), (.int .i64 0)]) := by kernel_rfl
theorem f103_0 : fieldOf Try.prog 103 0 = some (0, 23) := by kernel_rfl
theorem p103_0 : places Try.prog 103 0 = some (0, 1) := by kernel_rfl
theorem f103_1 : fieldOf Try.prog 103 1 = some (1, 3) := by kernel_rfl
theorem p103_1 : places Try.prog 103 1 = some (1, 1) := by kernel_rfl
theorem pu103 : partsU Try.prog 103 = true := by kernel_rfl
theorem c104 : Try.prog.cellsOf 104 = 6 := by kernel_rfl
theorem b104 : Try.prog.bytesOf 104 = 64 := by kernel_rfl
theorem a104 : aggT Try.prog 104 = true := by kernel_rfl
theorem us104 : (Try.prog.underlying 104).isSome = true := by kernel_rfl
theorem s104 : elemSl Try.prog 104 = none := by kernel_rfl
theorem ar104 : elemAr Try.prog 104 = none := by kernel_rfl
theorem z104 : zeroD Try.prog 104 = some (.agg [(.slice []), (.int .i64 0), (.int .i64 0), (.int .i64 0), (.int .i64 0), (.int .i64 0)]) := by kernel_rfl
theorem f104_0 : fieldOf Try.prog 104 0 = some (0, 103) := by kernel_rfl
theorem p104_0 : places Try.prog 104 0 = some (0, 2) := by kernel_rfl
theorem f104_1 : fieldOf Try.prog 104 1 = some (2, 3) := by kernel_rfl
theorem p104_1 : places Try.prog 104 1 = some (2, 1) := by kernel_rfl
theorem f104_2 : fieldOf Try.prog 104 2 = some (3, 3) := by kernel_rfl
theorem p104_2 : places Try.prog 104 2 = some (3, 1) := by kernel_rfl
theorem f104_3 : fieldOf Try.prog 104 3 = some (4, 3) := by kernel_rfl
theorem p104_3 : places Try.prog 104 3 = some (4, 1) := by kernel_rfl
theorem f104_4 : fieldOf Try.prog 104 4 = some (5, 3) := by kernel_rfl
theorem p104_4 : places Try.prog 104 4 = some (5, 1) := by kernel_rfl
theorem pu104 : partsU Try.prog 104 = true := by kernel_rfl
theorem c105 : Try.prog.cellsOf 105 = 6 := by kernel_rfl
theorem b105 : Try.prog.bytesOf 105 = 64 := by kernel_rfl
theorem a105 : aggT Try.prog 105 = true := by kernel_rfl
theorem us105 : (Try.prog.underlying 105).isSome = true := by kernel_rfl
theorem s105 : elemSl Try.prog 105 = none := by kernel_rfl
theorem ar105 : elemAr Try.prog 105 = none := by kernel_rfl
theorem z105 : zeroD Try.prog 105 = some (.agg [(.slice []), (.int .i64 0), (.int .i64 0), (.int .i64 0), (.int .i64 0), (.int .i64 0)]) := by kernel_rfl
theorem f105_0 : fieldOf Try.prog 105 0 = some (0, 103) := by kernel_rfl
theorem p105_0 : places Try.prog 105 0 = some (0, 2) := by kernel_rfl
theorem f105_1 : fieldOf Try.prog 105 1 = some (2, 3) := by kernel_rfl
theorem p105_1 : places Try.prog 105 1 = some (2, 1) := by kernel_rfl
theorem f105_2 : fieldOf Try.prog 105 2 = some (3, 3) := by kernel_rfl
theorem p105_2 : places Try.prog 105 2 = some (3, 1) := by kernel_rfl
theorem f105_3 : fieldOf Try.prog 105 3 = some (4, 3) := by kernel_rfl
theorem p105_3 : places Try.prog 105 3 = some (4, 1) := by kernel_rfl
theorem f105_4 : fieldOf Try.prog 105 4 = some (5, 3) := by kernel_rfl
theorem p105_4 : places Try.prog 105 4 = some (5, 1) := by kernel_rfl
theorem pu105 : partsU Try.prog 105 = true := by kernel_rfl
theorem c112 : Try.prog.cellsOf 112 = 2 := by kernel_rfl
theorem b112 : Try.prog.bytesOf 112 = 32 := by kernel_rfl
theorem a112 : aggT Try.prog 112 = true := by kernel_rfl
theorem us112 : (Try.prog.underlying 112).isSome = true := by kernel_rfl
theorem s112 : elemSl Try.prog 112 = none := by kernel_rfl
theorem ar112 : elemAr Try.prog 112 = none := by kernel_rfl
theorem z112 : zeroD Try.prog 112 = some (.agg [(.slice []), (.int .i64 0)]) := by kernel_rfl
theorem f112_0 : fieldOf Try.prog 112 0 = some (0, 23) := by kernel_rfl
theorem p112_0 : places Try.prog 112 0 = some (0, 1) := by kernel_rfl
theorem f112_1 : fieldOf Try.prog 112 1 = some (1, 3) := by kernel_rfl
theorem p112_1 : places Try.prog 112 1 = some (1, 1) := by kernel_rfl
theorem pu112 : partsU Try.prog 112 = true := by kernel_rfl
theorem c113 : Try.prog.cellsOf 113 = 6 := by kernel_rfl
theorem b113 : Try.prog.bytesOf 113 = 64 := by kernel_rfl
theorem a113 : aggT Try.prog 113 = true := by kernel_rfl
theorem us113 : (Try.prog.underlying 113).isSome = true := by kernel_rfl
theorem s113 : elemSl Try.prog 113 = none := by kernel_rfl
theorem ar113 : elemAr Try.prog 113 = none := by kernel_rfl
theorem z113 : zeroD Try.prog 113 = some (.agg [(.slice []), (.int .i64 0), (.int .i64 0), (.int .i64 0), (.int .i64 0), (.int .i64 0)]) := by kernel_rfl
theorem f113_0 : fieldOf Try.prog 113 0 = some (0, 112) := by kernel_rfl
theorem p113_0 : places Try.prog 113 0 = some (0, 2) := by kernel_rfl
theorem f113_1 : fieldOf Try.prog 113 1 = some (2, 3) := by kernel_rfl
theorem p113_1 : places Try.prog 113 1 = some (2, 1) := by kernel_rfl
theorem f113_2 : fieldOf Try.prog 113 2 = some (3, 3) := by kernel_rfl
theorem p113_2 : places Try.prog 113 2 = some (3, 1) := by kernel_rfl
theorem f113_3 : fieldOf Try.prog 113 3 = some (4, 3) := by kernel_rfl
theorem p113_3 : places Try.prog 113 3 = some (4, 1) := by kernel_rfl
theorem f113_4 : fieldOf Try.prog 113 4 = some (5, 3) := by kernel_rfl
theorem p113_4 : places Try.prog 113 4 = some (5, 1) := by kernel_rfl
theorem pu113 : partsU Try.prog 113 = true := by kernel_rfl
theorem c114 : Try.prog.cellsOf 114 = 6 := by kernel_rfl
theorem b114 : Try.prog.bytesOf 114 = 64 := by kernel_rfl
theorem a114 : aggT Try.prog 114 = true := by kernel_rfl
theorem us114 : (Try.prog.underlying 114).isSome = true := by kernel_rfl
theorem s114 : elemSl Try.prog 114 = none := by kernel_rfl
theorem ar114 : elemAr Try.prog 114 = none := by kernel_rfl
theorem z114 : zeroD Try.prog 114 = some (.agg [(.slice []), (.int .i64 0), (.int .i64 0), (.int .i64 0), (.int .i64 0), (.int .i64 0)]) := by kernel_rfl
theorem f114_0 : fieldOf Try.prog 114 0 = some (0, 112) := by kernel_rfl
theorem p114_0 : places Try.prog 114 0 = some (0, 2) := by kernel_rfl
theorem f114_1 : fieldOf Try.prog 114 1 = some (2, 3) := by kernel_rfl
theorem p114_1 : places Try.prog 114 1 = some (2, 1) := by kernel_rfl
theorem f114_2 : fieldOf Try.prog 114 2 = some (3, 3) := by kernel_rfl
theorem p114_2 : places Try.prog 114 2 = some (3, 1) := by kernel_rfl
theorem f114_3 : fieldOf Try.prog 114 3 = some (4, 3) := by kernel_rfl
theorem p114_3 : places Try.prog 114 3 = some (4, 1) := by kernel_rfl
theorem f114_4 : fieldOf Try.prog 114 4 = some (5, 3) := by kernel_rfl
theorem p114_4 : places Try.prog 114 4 = some (5, 1) := by kernel_rfl
theorem pu114 : partsU Try.prog 114 = true := by kernel_rfl
theorem c118 : Try.prog.cellsOf 118 = 2 := by kernel_rfl
theorem b118 : Try.prog.bytesOf 118 = 16 := by kernel_rfl
theorem a118 : aggT Try.prog 118 = true := by kernel_rfl
theorem us118 : (Try.prog.underlying 118).isSome = true := by kernel_rfl
theorem s118 : elemSl Try.prog 118 = none := by kernel_rfl
theorem ar118 : elemAr Try.prog 118 = some (2, 3) := by kernel_rfl
theorem z118 : zeroD Try.prog 118 = some (.agg [(.int .i64 0), (.int .i64 0)]) := by kernel_rfl
theorem pu118 : partsU Try.prog 118 = true := by kernel_rfl
theorem c120 : Try.prog.cellsOf 120 = 1 := by kernel_rfl
theorem b120 : Try.prog.bytesOf 120 = 24 := by kernel_rfl
theorem a120 : aggT Try.prog 120 = false := by kernel_rfl
theorem us120 : (Try.prog.underlying 120).isSome = true := by kernel_rfl
theorem s120 : elemSl Try.prog 120 = some 4 := by kernel_rfl
theorem ar120 : elemAr Try.prog 120 = none := by kernel_rfl
theorem z120 : zeroD Try.prog 120 = some (.slice []) := by kernel_rfl
theorem c127 : Try.prog.cellsOf 127 = 8 := by kernel_rfl
theorem b127 : Try.prog.bytesOf 127 = 8 := by kernel_rfl
theorem a127 : aggT Try.prog 127 = true := by kernel_rfl
theorem us127 : (Try.prog.underlying 127).isSome = true := by kernel_rfl
theorem s127 : elemSl Try.prog 127 = none := by kernel_rfl
theorem ar127 : elemAr Try.prog 127 = some (8, 4) := by kernel_rfl
theorem z127 : zeroD Try.prog 127 = some (.agg [(.bool false), (.bool false), (.bool false), (.bool false), (.bool false), (.bool false), (.bool false), (.bool false)]) := by kernel_rfl
theorem pu127 : partsU Try.prog 127 = true := by kernel_rfl
theorem c137 : Try.prog.cellsOf 137 = 1 := by kernel_rfl
theorem b137 : Try.prog.bytesOf 137 = 8 := by kernel_rfl
theorem a137 : aggT Try.prog 137 = false := by kernel_rfl
theorem us137 : (Try.prog.underlying 137).isSome = true := by kernel_rfl
theorem s137 : elemSl Try.prog 137 = none := by kernel_rfl
theorem ar137 : elemAr Try.prog 137 = none := by kernel_rfl
theorem k137 : Try.prog.underlying 137 = some (.int .u64) := by kernel_rfl
theorem z137 : zeroD Try.prog 137 = some (.int .u64 0) := by kernel_rfl
theorem c162 : Try.prog.cellsOf 162 = 1 := by kernel_rfl
theorem b162 : Try.prog.bytesOf 162 = 8 := by kernel_rfl
theorem a162 : aggT Try.prog 162 = false := by kernel_rfl
theorem us162 : (Try.prog.underlying 162).isSome = true := by kernel_rfl
theorem s162 : elemSl Try.prog 162 = none := by kernel_rfl
theorem ar162 : elemAr Try.prog 162 = none := by kernel_rfl
theorem k162 : Try.prog.underlying 162 = some (.int .i64) := by kernel_rfl
theorem z162 : zeroD Try.prog 162 = some (.int .i64 0) := by kernel_rfl
theorem c169 : Try.prog.cellsOf 169 = 1 := by kernel_rfl
theorem b169 : Try.prog.bytesOf 169 = 4 := by kernel_rfl
theorem a169 : aggT Try.prog 169 = false := by kernel_rfl
theorem us169 : (Try.prog.underlying 169).isSome = true := by kernel_rfl
theorem s169 : elemSl Try.prog 169 = none := by kernel_rfl
theorem ar169 : elemAr Try.prog 169 = none := by kernel_rfl
theorem k169 : Try.prog.underlying 169 = some (.int .u32) := by kernel_rfl
theorem z169 : zeroD Try.prog 169 = some (.int .u32 0) := by kernel_rfl
theorem c171 : Try.prog.cellsOf 171 = 1 := by kernel_rfl
theorem b171 : Try.prog.bytesOf 171 = 8 := by kernel_rfl
theorem a171 : aggT Try.prog 171 = false := by kernel_rfl
theorem us171 : (Try.prog.underlying 171).isSome = true := by kernel_rfl
theorem s171 : elemSl Try.prog 171 = none := by kernel_rfl
theorem ar171 : elemAr Try.prog 171 = none := by kernel_rfl
theorem k171 : Try.prog.underlying 171 = some (.int .u64) := by kernel_rfl
theorem z171 : zeroD Try.prog 171 = some (.int .u64 0) := by kernel_rfl
theorem c172 : Try.prog.cellsOf 172 = 1 := by kernel_rfl
theorem b172 : Try.prog.bytesOf 172 = 8 := by kernel_rfl
theorem a172 : aggT Try.prog 172 = false := by kernel_rfl
theorem us172 : (Try.prog.underlying 172).isSome = true := by kernel_rfl
theorem s172 : elemSl Try.prog 172 = none := by kernel_rfl
theorem ar172 : elemAr Try.prog 172 = none := by kernel_rfl
theorem z172 : zeroD Try.prog 172 = some .nilptr := by kernel_rfl
theorem c173 : Try.prog.cellsOf 173 = 2 := by kernel_rfl
theorem b173 : Try.prog.bytesOf 173 = 32 := by kernel_rfl
theorem a173 : aggT Try.prog 173 = true := by kernel_rfl
theorem us173 : (Try.prog.underlying 173).isSome = true := by kernel_rfl
theorem s173 : elemSl Try.prog 173 = none := by kernel_rfl
theorem ar173 : elemAr Try.prog 173 = none := by kernel_rfl
theorem z173 : zeroD Try.prog 173 = some (.agg [(.int .i64 0), (.slice [])]) := by kernel_rfl
theorem f173_0 : fieldOf Try.prog 173 0 = some (0, 3) := by kernel_rfl
theorem p173_0 : places Try.prog 173 0 = some (0, 1) := by kernel_rfl
theorem f173_1 : fieldOf Try.prog 173 1 = some (1, 27) := by kernel_rfl
theorem p173_1 : places Try.prog 173 1 = some (1, 1) := by kernel_rfl
theorem pu173 : partsU Try.prog 173 = true := by kernel_rfl
theorem c174 : Try.prog.cellsOf 174 = 2 := by kernel_rfl
theorem b174 : Try.prog.bytesOf 174 = 32 := by kernel_rfl
theorem a174 : aggT Try.prog 174 = true := by kernel_rfl
theorem us174 : (Try.prog.underlying 174).isSome = true := by kernel_rfl
theorem s174 : elemSl Try.prog 174 = none := by kernel_rfl
theorem ar174 : elemAr Try.prog 174 = none := by kernel_rfl
theorem z174 : zeroD Try.prog 174 = some (.agg [(.int .i64 0), (.slice [])]) := by kernel_rfl
theorem f174_0 : fieldOf Try.prog 174 0 = some (0, 3) := by kernel_rfl
theorem p174_0 : places Try.prog 174 0 = some (0, 1) := by kernel_rfl
theorem f174_1 : fieldOf Try.prog 174 1 = some (1, 27) := by kernel_rfl
theorem p174_1 : places Try.prog 174 1 = some (1, 1) := by kernel_rfl
theorem pu174 : partsU Try.prog 174 = true := by kernel_rfl
theorem c187 : Try.prog.cellsOf 187 = 1 := by kernel_rfl
theorem b187 : Try.prog.bytesOf 187 = 8 := by kernel_rfl
theorem a187 : aggT Try.prog 187 = false := by kernel_rfl
theorem us187 : (Try.prog.underlying 187).isSome = true := by kernel_rfl
theorem s187 : elemSl Try.prog 187 = none := by kernel_rfl
theorem ar187 : elemAr Try.prog 187 = none := by kernel_rfl
theorem k187 : Try.prog.underlying 187 = some (.int .u64) := by kernel_rfl
theorem z187 : zeroD Try.prog 187 = some (.int .u64 0) := by kernel_rfl
theorem c191 : Try.prog.cellsOf 191 = 1 := by kernel_rfl
theorem b191 : Try.prog.bytesOf 191 = 8 := by kernel_rfl
theorem a191 : aggT Try.prog 191 = false := by kernel_rfl
theorem us191 : (Try.prog.underlying 191).isSome = true := by kernel_rfl
theorem s191 : elemSl Try.prog 191 = none := by kernel_rfl
theorem ar191 : elemAr Try.prog 191 = none := by kernel_rfl
theorem z191 : zeroD Try.prog 191 = some .nilptr := by kernel_rfl
theorem c205 : Try.prog.cellsOf 205 = 1 := by kernel_rfl
theorem b205 : Try.prog.bytesOf 205 = 8 := by kernel_rfl
theorem a205 : aggT Try.prog 205 = false := by kernel_rfl
theorem us205 : (Try.prog.underlying 205).isSome = true := by kernel_rfl
theorem s205 : elemSl Try.prog 205 = none := by kernel_rfl
theorem ar205 : elemAr Try.prog 205 = none := by kernel_rfl
theorem z205 : zeroD Try.prog 205 = some .nilptr := by kernel_rfl
theorem c214 : Try.prog.cellsOf 214 = 4 := by kernel_rfl
theorem b214 : Try.prog.bytesOf 214 = 40 := by kernel_rfl
theorem a214 : aggT Try.prog 214 = true := by kernel_rfl
theorem us214 : (Try.prog.underlying 214).isSome = true := by kernel_rfl
theorem s214 : elemSl Try.prog 214 = none := by kernel_rfl
theorem ar214 : elemAr Try.prog 214 = none := by kernel_rfl
theorem z214 : zeroD Try.prog 214 = some (.agg [.nilptr, .nilptr, .nilptr, (.str ByteArray.empty)]) := by kernel_rfl
theorem f214_0 : fieldOf Try.prog 214 0 = some (0, 17) := by kernel_rfl
theorem p214_0 : places Try.prog 214 0 = some (0, 1) := by kernel_rfl
theorem f214_1 : fieldOf Try.prog 214 1 = some (1, 17) := by kernel_rfl
theorem p214_1 : places Try.prog 214 1 = some (1, 1) := by kernel_rfl
theorem f214_2 : fieldOf Try.prog 214 2 = some (2, 17) := by kernel_rfl
theorem p214_2 : places Try.prog 214 2 = some (2, 1) := by kernel_rfl
theorem f214_3 : fieldOf Try.prog 214 3 = some (3, 9) := by kernel_rfl
theorem p214_3 : places Try.prog 214 3 = some (3, 1) := by kernel_rfl
theorem pu214 : partsU Try.prog 214 = true := by kernel_rfl
theorem c215 : Try.prog.cellsOf 215 = 4 := by kernel_rfl
theorem b215 : Try.prog.bytesOf 215 = 40 := by kernel_rfl
theorem a215 : aggT Try.prog 215 = true := by kernel_rfl
theorem us215 : (Try.prog.underlying 215).isSome = true := by kernel_rfl
theorem s215 : elemSl Try.prog 215 = none := by kernel_rfl
theorem ar215 : elemAr Try.prog 215 = none := by kernel_rfl
theorem z215 : zeroD Try.prog 215 = some (.agg [.nilptr, .nilptr, .nilptr, (.str ByteArray.empty)]) := by kernel_rfl
theorem f215_0 : fieldOf Try.prog 215 0 = some (0, 17) := by kernel_rfl
theorem p215_0 : places Try.prog 215 0 = some (0, 1) := by kernel_rfl
theorem f215_1 : fieldOf Try.prog 215 1 = some (1, 17) := by kernel_rfl
theorem p215_1 : places Try.prog 215 1 = some (1, 1) := by kernel_rfl
theorem f215_2 : fieldOf Try.prog 215 2 = some (2, 17) := by kernel_rfl
theorem p215_2 : places Try.prog 215 2 = some (2, 1) := by kernel_rfl
theorem f215_3 : fieldOf Try.prog 215 3 = some (3, 9) := by kernel_rfl
theorem p215_3 : places Try.prog 215 3 = some (3, 1) := by kernel_rfl
theorem pu215 : partsU Try.prog 215 = true := by kernel_rfl
theorem c216 : Try.prog.cellsOf 216 = 0 := by kernel_rfl
theorem b216 : Try.prog.bytesOf 216 = 0 := by kernel_rfl
theorem a216 : aggT Try.prog 216 = true := by kernel_rfl
theorem us216 : (Try.prog.underlying 216).isSome = true := by kernel_rfl
theorem s216 : elemSl Try.prog 216 = none := by kernel_rfl
theorem ar216 : elemAr Try.prog 216 = some (0, 16) := by kernel_rfl
theorem z216 : zeroD Try.prog 216 = some (.agg []) := by kernel_rfl
theorem pu216 : partsU Try.prog 216 = true := by kernel_rfl
theorem c217 : Try.prog.cellsOf 217 = 0 := by kernel_rfl
theorem b217 : Try.prog.bytesOf 217 = 0 := by kernel_rfl
theorem a217 : aggT Try.prog 217 = true := by kernel_rfl
theorem us217 : (Try.prog.underlying 217).isSome = true := by kernel_rfl
theorem s217 : elemSl Try.prog 217 = none := by kernel_rfl
theorem ar217 : elemAr Try.prog 217 = none := by kernel_rfl
theorem z217 : zeroD Try.prog 217 = some (.agg []) := by kernel_rfl
theorem f217_0 : fieldOf Try.prog 217 0 = some (0, 216) := by kernel_rfl
theorem p217_0 : places Try.prog 217 0 = some (0, 0) := by kernel_rfl
theorem pu217 : partsU Try.prog 217 = true := by kernel_rfl
theorem c218 : Try.prog.cellsOf 218 = 0 := by kernel_rfl
theorem b218 : Try.prog.bytesOf 218 = 0 := by kernel_rfl
theorem a218 : aggT Try.prog 218 = true := by kernel_rfl
theorem us218 : (Try.prog.underlying 218).isSome = true := by kernel_rfl
theorem s218 : elemSl Try.prog 218 = none := by kernel_rfl
theorem ar218 : elemAr Try.prog 218 = none := by kernel_rfl
theorem z218 : zeroD Try.prog 218 = some (.agg []) := by kernel_rfl
theorem f218_0 : fieldOf Try.prog 218 0 = some (0, 216) := by kernel_rfl
theorem p218_0 : places Try.prog 218 0 = some (0, 0) := by kernel_rfl
theorem pu218 : partsU Try.prog 218 = true := by kernel_rfl
theorem c220 : Try.prog.cellsOf 220 = 1 := by kernel_rfl
theorem b220 : Try.prog.bytesOf 220 = 1 := by kernel_rfl
theorem a220 : aggT Try.prog 220 = false := by kernel_rfl
theorem us220 : (Try.prog.underlying 220).isSome = true := by kernel_rfl
theorem s220 : elemSl Try.prog 220 = none := by kernel_rfl
theorem ar220 : elemAr Try.prog 220 = none := by kernel_rfl
theorem k220 : Try.prog.underlying 220 = some (.int .u8) := by kernel_rfl
theorem z220 : zeroD Try.prog 220 = some (.int .u8 0) := by kernel_rfl
theorem c221 : Try.prog.cellsOf 221 = 1 := by kernel_rfl
theorem b221 : Try.prog.bytesOf 221 = 1 := by kernel_rfl
theorem a221 : aggT Try.prog 221 = false := by kernel_rfl
theorem us221 : (Try.prog.underlying 221).isSome = true := by kernel_rfl
theorem s221 : elemSl Try.prog 221 = none := by kernel_rfl
theorem ar221 : elemAr Try.prog 221 = none := by kernel_rfl
theorem k221 : Try.prog.underlying 221 = some (.int .u8) := by kernel_rfl
theorem z221 : zeroD Try.prog 221 = some (.int .u8 0) := by kernel_rfl
theorem c223 : Try.prog.cellsOf 223 = 1 := by kernel_rfl
theorem b223 : Try.prog.bytesOf 223 = 8 := by kernel_rfl
theorem a223 : aggT Try.prog 223 = false := by kernel_rfl
theorem us223 : (Try.prog.underlying 223).isSome = true := by kernel_rfl
theorem s223 : elemSl Try.prog 223 = none := by kernel_rfl
theorem ar223 : elemAr Try.prog 223 = none := by kernel_rfl
theorem z223 : zeroD Try.prog 223 = some .nilptr := by kernel_rfl
theorem c224 : Try.prog.cellsOf 224 = 1 := by kernel_rfl
theorem b224 : Try.prog.bytesOf 224 = 4 := by kernel_rfl
theorem a224 : aggT Try.prog 224 = false := by kernel_rfl
theorem us224 : (Try.prog.underlying 224).isSome = true := by kernel_rfl
theorem s224 : elemSl Try.prog 224 = none := by kernel_rfl
theorem ar224 : elemAr Try.prog 224 = none := by kernel_rfl
theorem k224 : Try.prog.underlying 224 = some (.int .i32) := by kernel_rfl
theorem z224 : zeroD Try.prog 224 = some (.int .i32 0) := by kernel_rfl
theorem c225 : Try.prog.cellsOf 225 = 1 := by kernel_rfl
theorem b225 : Try.prog.bytesOf 225 = 4 := by kernel_rfl
theorem a225 : aggT Try.prog 225 = false := by kernel_rfl
theorem us225 : (Try.prog.underlying 225).isSome = true := by kernel_rfl
theorem s225 : elemSl Try.prog 225 = none := by kernel_rfl
theorem ar225 : elemAr Try.prog 225 = none := by kernel_rfl
theorem k225 : Try.prog.underlying 225 = some (.int .i32) := by kernel_rfl
theorem z225 : zeroD Try.prog 225 = some (.int .i32 0) := by kernel_rfl
theorem c226 : Try.prog.cellsOf 226 = 11 := by kernel_rfl
theorem b226 : Try.prog.bytesOf 226 = 48 := by kernel_rfl
theorem a226 : aggT Try.prog 226 = true := by kernel_rfl
theorem us226 : (Try.prog.underlying 226).isSome = true := by kernel_rfl
theorem s226 : elemSl Try.prog 226 = none := by kernel_rfl
theorem ar226 : elemAr Try.prog 226 = none := by kernel_rfl
theorem z226 : zeroD Try.prog 226 = some (.agg [(.int .u64 0), (.int .u64 0), (.int .u32 0), (.int .u8 0), (.int .u8 0), (.int .u8 0), (.int .u8 0), .nilfn, .nilptr, (.int .i32 0), (.int .i32 0)]) := by kernel_rfl
theorem f226_0 : fieldOf Try.prog 226 0 = some (0, 12) := by kernel_rfl
theorem p226_0 : places Try.prog 226 0 = some (0, 1) := by kernel_rfl
theorem f226_1 : fieldOf Try.prog 226 1 = some (1, 12) := by kernel_rfl
theorem p226_1 : places Try.prog 226 1 = some (1, 1) := by kernel_rfl
theorem f226_2 : fieldOf Try.prog 226 2 = some (2, 169) := by kernel_rfl
theorem p226_2 : places Try.prog 226 2 = some (2, 1) := by kernel_rfl
theorem f226_3 : fieldOf Try.prog 226 3 = some (3, 220) := by kernel_rfl
theorem p226_3 : places Try.prog 226 3 = some (3, 1) := by kernel_rfl
theorem f226_4 : fieldOf Try.prog 226 4 = some (4, 5) := by kernel_rfl
theorem p226_4 : places Try.prog 226 4 = some (4, 1) := by kernel_rfl
theorem f226_5 : fieldOf Try.prog 226 5 = some (5, 5) := by kernel_rfl
theorem p226_5 : places Try.prog 226 5 = some (5, 1) := by kernel_rfl
theorem f226_6 : fieldOf Try.prog 226 6 = some (6, 221) := by kernel_rfl
theorem p226_6 : places Try.prog 226 6 = some (6, 1) := by kernel_rfl
theorem f226_7 : fieldOf Try.prog 226 7 = some (7, 222) := by kernel_rfl
theorem f226_8 : fieldOf Try.prog 226 8 = some (8, 223) := by kernel_rfl
theorem p226_8 : places Try.prog 226 8 = some (8, 1) := by kernel_rfl
theorem f226_9 : fieldOf Try.prog 226 9 = some (9, 224) := by kernel_rfl
theorem p226_9 : places Try.prog 226 9 = some (9, 1) := by kernel_rfl
theorem f226_10 : fieldOf Try.prog 226 10 = some (10, 225) := by kernel_rfl
theorem p226_10 : places Try.prog 226 10 = some (10, 1) := by kernel_rfl
theorem pu226 : partsU Try.prog 226 = true := by kernel_rfl
theorem c227 : Try.prog.cellsOf 227 = 11 := by kernel_rfl
theorem b227 : Try.prog.bytesOf 227 = 48 := by kernel_rfl
theorem a227 : aggT Try.prog 227 = true := by kernel_rfl
theorem us227 : (Try.prog.underlying 227).isSome = true := by kernel_rfl
theorem s227 : elemSl Try.prog 227 = none := by kernel_rfl
theorem ar227 : elemAr Try.prog 227 = none := by kernel_rfl
theorem z227 : zeroD Try.prog 227 = some (.agg [(.int .u64 0), (.int .u64 0), (.int .u32 0), (.int .u8 0), (.int .u8 0), (.int .u8 0), (.int .u8 0), .nilfn, .nilptr, (.int .i32 0), (.int .i32 0)]) := by kernel_rfl
theorem f227_0 : fieldOf Try.prog 227 0 = some (0, 12) := by kernel_rfl
theorem p227_0 : places Try.prog 227 0 = some (0, 1) := by kernel_rfl
theorem f227_1 : fieldOf Try.prog 227 1 = some (1, 12) := by kernel_rfl
theorem p227_1 : places Try.prog 227 1 = some (1, 1) := by kernel_rfl
theorem f227_2 : fieldOf Try.prog 227 2 = some (2, 169) := by kernel_rfl
theorem p227_2 : places Try.prog 227 2 = some (2, 1) := by kernel_rfl
theorem f227_3 : fieldOf Try.prog 227 3 = some (3, 220) := by kernel_rfl
theorem p227_3 : places Try.prog 227 3 = some (3, 1) := by kernel_rfl
theorem f227_4 : fieldOf Try.prog 227 4 = some (4, 5) := by kernel_rfl
theorem p227_4 : places Try.prog 227 4 = some (4, 1) := by kernel_rfl
theorem f227_5 : fieldOf Try.prog 227 5 = some (5, 5) := by kernel_rfl
theorem p227_5 : places Try.prog 227 5 = some (5, 1) := by kernel_rfl
theorem f227_6 : fieldOf Try.prog 227 6 = some (6, 221) := by kernel_rfl
theorem p227_6 : places Try.prog 227 6 = some (6, 1) := by kernel_rfl
theorem f227_7 : fieldOf Try.prog 227 7 = some (7, 222) := by kernel_rfl
theorem f227_8 : fieldOf Try.prog 227 8 = some (8, 223) := by kernel_rfl
theorem p227_8 : places Try.prog 227 8 = some (8, 1) := by kernel_rfl
theorem f227_9 : fieldOf Try.prog 227 9 = some (9, 224) := by kernel_rfl
theorem p227_9 : places Try.prog 227 9 = some (9, 1) := by kernel_rfl
theorem f227_10 : fieldOf Try.prog 227 10 = some (10, 225) := by kernel_rfl
theorem p227_10 : places Try.prog 227 10 = some (10, 1) := by kernel_rfl
theorem pu227 : partsU Try.prog 227 = true := by kernel_rfl
attribute [go_sem] c2 b2 a2 us2 s2 ar2 k2 z2 c3 b3 a3 us3 s3 ar3 k3 z3 c4 b4 a4 us4 s4 ar4 bo4 z4 c5 b5 a5 us5 s5 ar5 k5 z5 c6 b6 a6 us6 s6 ar6 k6 z6
attribute [go_sem] c7 b7 a7 us7 s7 ar7 z7 f7_0 p7_0 f7_1 p7_1 f7_2 p7_2 f7_3 p7_3 pu7 c8 b8 a8 us8 s8 ar8 z8 f8_0 p8_0 f8_1 p8_1 f8_2 p8_2 f8_3 p8_3 pu8 c9 b9 a9 us9 s9 ar9 st9 z9
attribute [go_sem] c10 b10 a10 us10 s10 ar10 st10 z10 c11 b11 a11 us11 s11 ar11 st11 z11 c12 b12 a12 us12 s12 ar12 k12 z12 c13 b13 a13 us13 s13 ar13 z13 f13_0 p13_0 f13_1 p13_1 pu13 c14 b14 a14 us14
attribute [go_sem] s14 ar14 z14 f14_0 p14_0 f14_1 p14_1 pu14 c15 b15 a15 us15 s15 ar15 z15 c16 b16 a16 us16 s16 ar16 z16 c17 b17 a17 us17 s17 ar17 z17 c18 b18 a18 us18 s18 ar18 z18 f18_0 p18_0 pu18 c19
attribute [go_sem] b19 a19 us19 s19 ar19 z19 f19_0 p19_0 pu19 c21 b21 a21 us21 s21 ar21 k21 z21 c22 b22 a22 us22 s22 ar22 z22 c23 b23 a23 us23 s23 ar23 z23 c24 b24 a24 us24 s24 ar24 z24 f24_0 p24_0
attribute [go_sem] f24_1 p24_1 f24_2 p24_2 pu24 c25 b25 a25 us25 s25 ar25 z25 f25_0 p25_0 f25_1 p25_1 f25_2 p25_2 pu25 c27 b27 a27 us27 s27 ar27 z27 c30 b30 a30 us30 s30 ar30 z30 f30_0 p30_0 f30_1 p30_1 f30_2 p30_2 pu30
attribute [go_sem] c43 b43 a43 us43 s43 ar43 z43 f43_0 p43_0 f43_1 p43_1 pu43 c44 b44 a44 us44 s44 ar44 z44 f44_0 p44_0 f44_1 p44_1 pu44 c46 b46 a46 us46 s46 ar46 z46 f46_0 p46_0 f46_1 p46_1 pu46 c53 b53 a53 us53
attribute [go_sem] s53 ar53 z53 c61 b61 a61 us61 s61 ar61 z61 c78 b78 a78 us78 s78 ar78 z78 c80 b80 a80 us80 s80 ar80 z80 c84 b84 a84 us84 s84 ar84 z84 f84_0 p84_0 f84_1 p84_1 pu84 c85 b85 a85 us85
attribute [go_sem] s85 ar85 z85 f85_0 p85_0 f85_1 p85_1 pu85 c97 b97 a97 us97 s97 ar97 z97 c98 b98 a98 us98 s98 ar98 z98 f98_0 p98_0 f98_1 p98_1 pu98 c99 b99 a99 us99 s99 ar99 z99 f99_0 p99_0 f99_1 p99_1 pu99 c102
attribute [go_sem] b102 a102 us102 s102 ar102 z102 f102_0 p102_0 f102_1 p102_1 pu102 c103 b103 a103 us103 s103 ar103 z103 f103_0 p103_0 f103_1 p103_1 pu103 c104 b104 a104 us104 s104 ar104 z104 f104_0 p104_0 f104_1 p104_1 f104_2 p104_2 f104_3 p104_3 f104_4 p104_4
attribute [go_sem] pu104 c105 b105 a105 us105 s105 ar105 z105 f105_0 p105_0 f105_1 p105_1 f105_2 p105_2 f105_3 p105_3 f105_4 p105_4 pu105 c112 b112 a112 us112 s112 ar112 z112 f112_0 p112_0 f112_1 p112_1 pu112 c113 b113 a113 us113 s113 ar113 z113 f113_0 p113_0
attribute [go_sem] f113_1 p113_1 f113_2 p113_2 f113_3 p113_3 f113_4 p113_4 pu113 c114 b114 a114 us114 s114 ar114 z114 f114_0 p114_0 f114_1 p114_1 f114_2 p114_2 f114_3 p114_3 f114_4 p114_4 pu114 c118 b118 a118 us118 s118 ar118 z118 pu118 c120 b120 a120 us120 s120
attribute [go_sem] ar120 z120 c127 b127 a127 us127 s127 ar127 z127 pu127 c137 b137 a137 us137 s137 ar137 k137 z137 c162 b162 a162 us162 s162 ar162 k162 z162 c169 b169 a169 us169 s169 ar169 k169 z169 c171 b171 a171 us171 s171 ar171
attribute [go_sem] k171 z171 c172 b172 a172 us172 s172 ar172 z172 c173 b173 a173 us173 s173 ar173 z173 f173_0 p173_0 f173_1 p173_1 pu173 c174 b174 a174 us174 s174 ar174 z174 f174_0 p174_0 f174_1 p174_1 pu174 c187 b187 a187 us187 s187 ar187 k187
attribute [go_sem] z187 c191 b191 a191 us191 s191 ar191 z191 c205 b205 a205 us205 s205 ar205 z205 c214 b214 a214 us214 s214 ar214 z214 f214_0 p214_0 f214_1 p214_1 f214_2 p214_2 f214_3 p214_3 pu214 c215 b215 a215 us215 s215 ar215 z215 f215_0 p215_0
attribute [go_sem] f215_1 p215_1 f215_2 p215_2 f215_3 p215_3 pu215 c216 b216 a216 us216 s216 ar216 z216 pu216 c217 b217 a217 us217 s217 ar217 z217 f217_0 p217_0 pu217 c218 b218 a218 us218 s218 ar218 z218 f218_0 p218_0 pu218 c220 b220 a220 us220 s220
attribute [go_sem] ar220 k220 z220 c221 b221 a221 us221 s221 ar221 k221 z221 c223 b223 a223 us223 s223 ar223 z223 c224 b224 a224 us224 s224 ar224 k224 z224 c225 b225 a225 us225 s225 ar225 k225 z225 c226 b226 a226 us226 s226 ar226
attribute [go_sem] z226 f226_0 p226_0 f226_1 p226_1 f226_2 p226_2 f226_3 p226_3 f226_4 p226_4 f226_5 p226_5 f226_6 p226_6 f226_7 f226_8 p226_8 f226_9 p226_9 f226_10 p226_10 pu226 c227 b227 a227 us227 s227 ar227 z227 f227_0 p227_0 f227_1 p227_1 f227_2 p227_2 f227_3 p227_3 f227_4 p227_4
attribute [go_sem] f227_5 p227_5 f227_6 p227_6 f227_7 f227_8 p227_8 f227_9 p227_9 f227_10 p227_10 pu227
end Abs.Y.Ty
