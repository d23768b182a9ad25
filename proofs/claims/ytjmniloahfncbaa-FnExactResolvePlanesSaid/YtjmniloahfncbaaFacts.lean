/- The facts on the types of this seat that the abstract walk asks for, by program. No condition. -/
import Derived.Test.YtjmniloahfncbaaAbsLib
import Derived.Test.YtjmniloahfncbaaAbsRow
import Derived.Test.YtjmniloahfncbaaChecked
set_option linter.all false
namespace Abs.Y.Ty
open Go Go.Proofs Abs
theorem c2 : Try.prog.cellsOf 2 = 1 := by kernel_rfl
theorem b2 : Try.prog.bytesOf 2 = 8 := by kernel_rfl
theorem a2 : aggT Try.prog 2 = false := by kernel_rfl
theorem us2 : (Try.prog.underlying 2).isSome = true := by kernel_rfl
theorem s2 : elemSl Try.prog 2 = none := by kernel_rfl
theorem ar2 : elemAr Try.prog 2 = none := by kernel_rfl
theorem k2 : Try.prog.underlying 2 = some (.int .i64) := by kernel_rfl
theorem z2 : zeroD Try.prog 2 = some (.int .i64 0) := by kernel_rfl
theorem c3 : Try.prog.cellsOf 3 = 1 := by kernel_rfl
theorem b3 : Try.prog.bytesOf 3 = 8 := by kernel_rfl
theorem a3 : aggT Try.prog 3 = false := by kernel_rfl
theorem us3 : (Try.prog.underlying 3).isSome = true := by kernel_rfl
theorem s3 : elemSl Try.prog 3 = none := by kernel_rfl
theorem ar3 : elemAr Try.prog 3 = none := by kernel_rfl
theorem k3 : Try.prog.underlying 3 = some (.int .i64) := by kernel_rfl
theorem z3 : zeroD Try.prog 3 = some (.int .i64 0) := by kernel_rfl
theorem c4 : Try.prog.cellsOf 4 = 1 := by kernel_rfl
theorem b4 : Try.prog.bytesOf 4 = 1 := by kernel_rfl
theorem a4 : aggT Try.prog 4 = false := by kernel_rfl
theorem us4 : (Try.prog.underlying 4).isSome = true := by kernel_rfl
theorem s4 : elemSl Try.prog 4 = none := by kernel_rfl
theorem ar4 : elemAr Try.prog 4 = none := by kernel_rfl
theorem bo4 : isBoolT Try.prog 4 = true := by kernel_rfl
theorem z4 : zeroD Try.prog 4 = some (.bool false) := by kernel_rfl
theorem c5 : Try.prog.cellsOf 5 = 1 := by kernel_rfl
theorem b5 : Try.prog.bytesOf 5 = 1 := by kernel_rfl
theorem a5 : aggT Try.prog 5 = false := by kernel_rfl
theorem us5 : (Try.prog.underlying 5).isSome = true := by kernel_rfl
theorem s5 : elemSl Try.prog 5 = none := by kernel_rfl
theorem ar5 : elemAr Try.prog 5 = none := by kernel_rfl
theorem k5 : Try.prog.underlying 5 = some (.int .u8) := by kernel_rfl
theorem z5 : zeroD Try.prog 5 = some (.int .u8 0) := by kernel_rfl
theorem c6 : Try.prog.cellsOf 6 = 1 := by kernel_rfl
theorem b6 : Try.prog.bytesOf 6 = 1 := by kernel_rfl
theorem a6 : aggT Try.prog 6 = false := by kernel_rfl
theorem us6 : (Try.prog.underlying 6).isSome = true := by kernel_rfl
theorem s6 : elemSl Try.prog 6 = none := by kernel_rfl
theorem ar6 : elemAr Try.prog 6 = none := by kernel_rfl
theorem k6 : Try.prog.underlying 6 = some (.int .u8) := by kernel_rfl
theorem z6 : zeroD Try.prog 6 = some (.int .u8 0) := by kernel_rfl
theorem c7 : Try.prog.cellsOf 7 = 4 := by kernel_rfl
theorem b7 : Try.prog.bytesOf 7 = 24 := by kernel_rfl
theorem a7 : aggT Try.prog 7 = true := by kernel_rfl
theorem us7 : (Try.prog.underlying 7).isSome = true := by kernel_rfl
theorem s7 : elemSl Try.prog 7 = none := by kernel_rfl
theorem ar7 : elemAr Try.prog 7 = none := by kernel_rfl
theorem z7 : zeroD Try.prog 7 = some (.agg [(.int .i64 0), (.int .i64 0), (.bool false), (.int .u8 0)]) := by kernel_rfl
theorem f7_0 : fieldOf Try.prog 7 0 = some (0, 2) := by kernel_rfl
theorem p7_0 : places Try.prog 7 0 = some (0, 1) := by kernel_rfl
theorem f7_1 : fieldOf Try.prog 7 1 = some (1, 3) := by kernel_rfl
theorem p7_1 : places Try.prog 7 1 = some (1, 1) := by kernel_rfl
theorem f7_2 : fieldOf Try.prog 7 2 = some (2, 4) := by kernel_rfl
theorem p7_2 : places Try.prog 7 2 = some (2, 1) := by kernel_rfl
theorem f7_3 : fieldOf Try.prog 7 3 = some (3, 6) := by kernel_rfl
theorem p7_3 : places Try.prog 7 3 = some (3, 1) := by kernel_rfl
theorem pu7 : partsU Try.prog 7 = true := by kernel_rfl
theorem c8 : Try.prog.cellsOf 8 = 4 := by kernel_rfl
theorem b8 : Try.prog.bytesOf 8 = 24 := by kernel_rfl
theorem a8 : aggT Try.prog 8 = true := by kernel_rfl
theorem us8 : (Try.prog.underlying 8).isSome = true := by kernel_rfl
theorem s8 : elemSl Try.prog 8 = none := by kernel_rfl
theorem ar8 : elemAr Try.prog 8 = none := by kernel_rfl
theorem z8 : zeroD Try.prog 8 = some (.agg [(.int .i64 0), (.int .i64 0), (.bool false), (.int .u8 0)]) := by kernel_rfl
theorem f8_0 : fieldOf Try.prog 8 0 = some (0, 2) := by kernel_rfl
theorem p8_0 : places Try.prog 8 0 = some (0, 1) := by kernel_rfl
theorem f8_1 : fieldOf Try.prog 8 1 = some (1, 3) := by kernel_rfl
theorem p8_1 : places Try.prog 8 1 = some (1, 1) := by kernel_rfl
theorem f8_2 : fieldOf Try.prog 8 2 = some (2, 4) := by kernel_rfl
theorem p8_2 : places Try.prog 8 2 = some (2, 1) := by kernel_rfl
theorem f8_3 : fieldOf Try.prog 8 3 = some (3, 6) := by kernel_rfl
theorem p8_3 : places Try.prog 8 3 = some (3, 1) := by kernel_rfl
theorem pu8 : partsU Try.prog 8 = true := by kernel_rfl
theorem c9 : Try.prog.cellsOf 9 = 1 := by kernel_rfl
theorem b9 : Try.prog.bytesOf 9 = 16 := by kernel_rfl
theorem a9 : aggT Try.prog 9 = false := by kernel_rfl
theorem us9 : (Try.prog.underlying 9).isSome = true := by kernel_rfl
theorem s9 : elemSl Try.prog 9 = none := by kernel_rfl
theorem ar9 : elemAr Try.prog 9 = none := by kernel_rfl
theorem st9 : isStrT Try.prog 9 = true := by kernel_rfl
theorem z9 : zeroD Try.prog 9 = some (.str ByteArray.empty) := by kernel_rfl
theorem c10 : Try.prog.cellsOf 10 = 1 := by kernel_rfl
theorem b10 : Try.prog.bytesOf 10 = 16 := by kernel_rfl
theorem a10 : aggT Try.prog 10 = false := by kernel_rfl
theorem us10 : (Try.prog.underlying 10).isSome = true := by kernel_rfl
theorem s10 : elemSl Try.prog 10 = none := by kernel_rfl
theorem ar10 : elemAr Try.prog 10 = none := by kernel_rfl
theorem st10 : isStrT Try.prog 10 = true := by kernel_rfl
theorem z10 : zeroD Try.prog 10 = some (.str ByteArray.empty) := by kernel_rfl
theorem c11 : Try.prog.cellsOf 11 = 1 := by kernel_rfl
theorem b11 : Try.prog.bytesOf 11 = 16 := by kernel_rfl
theorem a11 : aggT Try.prog 11 = false := by kernel_rfl
theorem us11 : (Try.prog.underlying 11).isSome = true := by kernel_rfl
theorem s11 : elemSl Try.prog 11 = none := by kernel_rfl
theorem ar11 : elemAr Try.prog 11 = none := by kernel_rfl
theorem st11 : isStrT Try.prog 11 = true := by kernel_rfl
theorem z11 : zeroD Try.prog 11 = some (.str ByteArray.empty) := by kernel_rfl
theorem c12 : Try.prog.cellsOf 12 = 1 := by kernel_rfl
theorem b12 : Try.prog.bytesOf 12 = 8 := by kernel_rfl
theorem a12 : aggT Try.prog 12 = false := by kernel_rfl
theorem us12 : (Try.prog.underlying 12).isSome = true := by kernel_rfl
theorem s12 : elemSl Try.prog 12 = none := by kernel_rfl
theorem ar12 : elemAr Try.prog 12 = none := by kernel_rfl
theorem k12 : Try.prog.underlying 12 = some (.int .u64) := by kernel_rfl
theorem z12 : zeroD Try.prog 12 = some (.int .u64 0) := by kernel_rfl
theorem c13 : Try.prog.cellsOf 13 = 2 := by kernel_rfl
theorem b13 : Try.prog.bytesOf 13 = 24 := by kernel_rfl
theorem a13 : aggT Try.prog 13 = true := by kernel_rfl
theorem us13 : (Try.prog.underlying 13).isSome = true := by kernel_rfl
theorem s13 : elemSl Try.prog 13 = none := by kernel_rfl
theorem ar13 : elemAr Try.prog 13 = none := by kernel_rfl
theorem z13 : zeroD Try.prog 13 = some (.agg [(.str ByteArray.empty), (.int .u64 0)]) := by kernel_rfl
theorem f13_0 : fieldOf Try.prog 13 0 = some (0, 9) := by kernel_rfl
theorem p13_0 : places Try.prog 13 0 = some (0, 1) := by kernel_rfl
theorem f13_1 : fieldOf Try.prog 13 1 = some (1, 12) := by kernel_rfl
theorem p13_1 : places Try.prog 13 1 = some (1, 1) := by kernel_rfl
theorem pu13 : partsU Try.prog 13 = true := by kernel_rfl
theorem c14 : Try.prog.cellsOf 14 = 2 := by kernel_rfl
theorem b14 : Try.prog.bytesOf 14 = 24 := by kernel_rfl
theorem a14 : aggT Try.prog 14 = true := by kernel_rfl
theorem us14 : (Try.prog.underlying 14).isSome = true := by kernel_rfl
theorem s14 : elemSl Try.prog 14 = none := by kernel_rfl
theorem ar14 : elemAr Try.prog 14 = none := by kernel_rfl
theorem z14 : zeroD Try.prog 14 = some (.agg [(.str ByteArray.empty), (.int .u64 0)]) := by kernel_rfl
theorem f14_0 : fieldOf Try.prog 14 0 = some (0, 9) := by kernel_rfl
theorem p14_0 : places Try.prog 14 0 = some (0, 1) := by kernel_rfl
theorem f14_1 : fieldOf Try.prog 14 1 = some (1, 12) := by kernel_rfl
theorem p14_1 : places Try.prog 14 1 = some (1, 1) := by kernel_rfl
theorem pu14 : partsU Try.prog 14 = true := by kernel_rfl
theorem c15 : Try.prog.cellsOf 15 = 1 := by kernel_rfl
theorem b15 : Try.prog.bytesOf 15 = 8 := by kernel_rfl
theorem a15 : aggT Try.prog 15 = false := by kernel_rfl
theorem us15 : (Try.prog.underlying 15).isSome = true := by kernel_rfl
theorem s15 : elemSl Try.prog 15 = none := by kernel_rfl
theorem ar15 : elemAr Try.prog 15 = none := by kernel_rfl
theorem z15 : zeroD Try.prog 15 = some .nilptr := by kernel_rfl
theorem c16 : Try.prog.cellsOf 16 = 1 := by kernel_rfl
theorem b16 : Try.prog.bytesOf 16 = 8 := by kernel_rfl
theorem a16 : aggT Try.prog 16 = false := by kernel_rfl
theorem us16 : (Try.prog.underlying 16).isSome = true := by kernel_rfl
theorem s16 : elemSl Try.prog 16 = none := by kernel_rfl
theorem ar16 : elemAr Try.prog 16 = none := by kernel_rfl
theorem z16 : zeroD Try.prog 16 = some .nilptr := by kernel_rfl
theorem c17 : Try.prog.cellsOf 17 = 1 := by kernel_rfl
theorem b17 : Try.prog.bytesOf 17 = 8 := by kernel_rfl
theorem a17 : aggT Try.prog 17 = false := by kernel_rfl
theorem us17 : (Try.prog.underlying 17).isSome = true := by kernel_rfl
theorem s17 : elemSl Try.prog 17 = none := by kernel_rfl
theorem ar17 : elemAr Try.prog 17 = none := by kernel_rfl
theorem z17 : zeroD Try.prog 17 = some .nilptr := by kernel_rfl
theorem c18 : Try.prog.cellsOf 18 = 1 := by kernel_rfl
theorem b18 : Try.prog.bytesOf 18 = 8 := by kernel_rfl
theorem a18 : aggT Try.prog 18 = true := by kernel_rfl
theorem us18 : (Try.prog.underlying 18).isSome = true := by kernel_rfl
theorem s18 : elemSl Try.prog 18 = none := by kernel_rfl
theorem ar18 : elemAr Try.prog 18 = none := by kernel_rfl
theorem z18 : zeroD Try.prog 18 = some (.agg [.nilptr]) := by kernel_rfl
theorem f18_0 : fieldOf Try.prog 18 0 = some (0, 17) := by kernel_rfl
theorem p18_0 : places Try.prog 18 0 = some (0, 1) := by kernel_rfl
theorem pu18 : partsU Try.prog 18 = true := by kernel_rfl
theorem c19 : Try.prog.cellsOf 19 = 1 := by kernel_rfl
theorem b19 : Try.prog.bytesOf 19 = 8 := by kernel_rfl
theorem a19 : aggT Try.prog 19 = true := by kernel_rfl
theorem us19 : (Try.prog.underlying 19).isSome = true := by kernel_rfl
theorem s19 : elemSl Try.prog 19 = none := by kernel_rfl
theorem ar19 : elemAr Try.prog 19 = none := by kernel_rfl
theorem z19 : zeroD Try.prog 19 = some (.agg [.nilptr]) := by kernel_rfl
theorem f19_0 : fieldOf Try.prog 19 0 = some (0, 17) := by kernel_rfl
theorem p19_0 : places Try.prog 19 0 = some (0, 1) := by kernel_rfl
theorem pu19 : partsU Try.prog 19 = true := by kernel_rfl
theorem c21 : Try.prog.cellsOf 21 = 1 := by kernel_rfl
theorem b21 : Try.prog.bytesOf 21 = 4 := by kernel_rfl
theorem a21 : aggT Try.prog 21 = false := by kernel_rfl
theorem us21 : (Try.prog.underlying 21).isSome = true := by kernel_rfl
theorem s21 : elemSl Try.prog 21 = none := by kernel_rfl
theorem ar21 : elemAr Try.prog 21 = none := by kernel_rfl
theorem k21 : Try.prog.underlying 21 = some (.int .i32) := by kernel_rfl
theorem z21 : zeroD Try.prog 21 = some (.int .i32 0) := by kernel_rfl
theorem c22 : Try.prog.cellsOf 22 = 1 := by kernel_rfl
theorem b22 : Try.prog.bytesOf 22 = 24 := by kernel_rfl
theorem a22 : aggT Try.prog 22 = false := by kernel_rfl
theorem us22 : (Try.prog.underlying 22).isSome = true := by kernel_rfl
theorem s22 : elemSl Try.prog 22 = some 3 := by kernel_rfl
theorem ar22 : elemAr Try.prog 22 = none := by kernel_rfl
theorem z22 : zeroD Try.prog 22 = some (.slice []) := by kernel_rfl
theorem c23 : Try.prog.cellsOf 23 = 2 := by kernel_rfl
theorem b23 : Try.prog.bytesOf 23 = 32 := by kernel_rfl
theorem a23 : aggT Try.prog 23 = true := by kernel_rfl
theorem us23 : (Try.prog.underlying 23).isSome = true := by kernel_rfl
theorem s23 : elemSl Try.prog 23 = none := by kernel_rfl
theorem ar23 : elemAr Try.prog 23 = none := by kernel_rfl
theorem z23 : zeroD Try.prog 23 = some (.agg [(.slice []), (.int .i64 0)]) := by kernel_rfl
theorem f23_0 : fieldOf Try.prog 23 0 = some (0, 22) := by kernel_rfl
theorem p23_0 : places Try.prog 23 0 = some (0, 1) := by kernel_rfl
theorem f23_1 : fieldOf Try.prog 23 1 = some (1, 3) := by kernel_rfl
theorem p23_1 : places Try.prog 23 1 = some (1, 1) := by kernel_rfl
theorem pu23 : partsU Try.prog 23 = true := by kernel_rfl
theorem c24 : Try.prog.cellsOf 24 = 2 := by kernel_rfl
theorem b24 : Try.prog.bytesOf 24 = 32 := by kernel_rfl
theorem a24 : aggT Try.prog 24 = true := by kernel_rfl
theorem us24 : (Try.prog.underlying 24).isSome = true := by kernel_rfl
theorem s24 : elemSl Try.prog 24 = none := by kernel_rfl
theorem ar24 : elemAr Try.prog 24 = none := by kernel_rfl
theorem z24 : zeroD Try.prog 24 = some (.agg [(.slice []), (.int .i64 0)]) := by kernel_rfl
theorem f24_0 : fieldOf Try.prog 24 0 = some (0, 22) := by kernel_rfl
theorem p24_0 : places Try.prog 24 0 = some (0, 1) := by kernel_rfl
theorem f24_1 : fieldOf Try.prog 24 1 = some (1, 3) := by kernel_rfl
theorem p24_1 : places Try.prog 24 1 = some (1, 1) := by kernel_rfl
theorem pu24 : partsU Try.prog 24 = true := by kernel_rfl
theorem c33 : Try.prog.cellsOf 33 = 1 := by kernel_rfl
theorem b33 : Try.prog.bytesOf 33 = 24 := by kernel_rfl
theorem a33 : aggT Try.prog 33 = false := by kernel_rfl
theorem us33 : (Try.prog.underlying 33).isSome = true := by kernel_rfl
theorem s33 : elemSl Try.prog 33 = some 22 := by kernel_rfl
theorem ar33 : elemAr Try.prog 33 = none := by kernel_rfl
theorem z33 : zeroD Try.prog 33 = some (.slice []) := by kernel_rfl
theorem c34 : Try.prog.cellsOf 34 = 2 := by kernel_rfl
theorem b34 : Try.prog.bytesOf 34 = 32 := by kernel_rfl
theorem a34 : aggT Try.prog 34 = true := by kernel_rfl
theorem us34 : (Try.prog.underlying 34).isSome = true := by kernel_rfl
theorem s34 : elemSl Try.prog 34 = none := by kernel_rfl
theorem ar34 : elemAr Try.prog 34 = none := by kernel_rfl
theorem z34 : zeroD Try.prog 34 = some (.agg [(.int .i64 0), (.slice [])]) := by kernel_rfl
theorem f34_0 : fieldOf Try.prog 34 0 = some (0, 3) := by kernel_rfl
theorem p34_0 : places Try.prog 34 0 = some (0, 1) := by kernel_rfl
theorem f34_1 : fieldOf Try.prog 34 1 = some (1, 33) := by kernel_rfl
theorem p34_1 : places Try.prog 34 1 = some (1, 1) := by kernel_rfl
theorem pu34 : partsU Try.prog 34 = true := by kernel_rfl
theorem c35 : Try.prog.cellsOf 35 = 2 := by kernel_rfl
theorem b35 : Try.prog.bytesOf 35 = 32 := by kernel_rfl
theorem a35 : aggT Try.prog 35 = true := by kernel_rfl
theorem us35 : (Try.prog.underlying 35).isSome = true := by kernel_rfl
theorem s35 : elemSl Try.prog 35 = none := by kernel_rfl
theorem ar35 : elemAr Try.prog 35 = none := by kernel_rfl
theorem z35 : zeroD Try.prog 35 = some (.agg [(.int .i64 0), (.slice [])]) := by kernel_rfl
theorem f35_0 : fieldOf Try.prog 35 0 = some (0, 3) := by kernel_rfl
theorem p35_0 : places Try.prog 35 0 = some (0, 1) := by kernel_rfl
theorem f35_1 : fieldOf Try.prog 35 1 = some (1, 33) := by kernel_rfl
theorem p35_1 : places Try.prog 35 1 = some (1, 1) := by kernel_rfl
theorem pu35 : partsU Try.prog 35 = true := by kernel_rfl
theorem c39 : Try.prog.cellsOf 39 = 2 := by kernel_rfl
theorem b39 : Try.prog.bytesOf 39 = 32 := by kernel_rfl
theorem a39 : aggT Try.prog 39 = true := by kernel_rfl
theorem us39 : (Try.prog.underlying 39).isSome = true := by kernel_rfl
theorem s39 : elemSl Try.prog 39 = none := by kernel_rfl
theorem ar39 : elemAr Try.prog 39 = none := by kernel_rfl
theorem z39 : zeroD Try.prog 39 = some (.agg [(.int .i64 0), (.slice [])]) := by kernel_rfl
theorem f39_0 : fieldOf Try.prog 39 0 = some (0, 3) := by kernel_rfl
theorem p39_0 : places Try.prog 39 0 = some (0, 1) := by kernel_rfl
theorem f39_1 : fieldOf Try.prog 39 1 = some (1, 33) := by kernel_rfl
theorem p39_1 : places Try.prog 39 1 = some (1, 1) := by kernel_rfl
theorem pu39 : partsU Try.prog 39 = true := by kernel_rfl
theorem c48 : Try.prog.cellsOf 48 = 1 := by kernel_rfl
theorem b48 : Try.prog.bytesOf 48 = 24 := by kernel_rfl
theorem a48 : aggT Try.prog 48 = false := by kernel_rfl
theorem us48 : (Try.prog.underlying 48).isSome = true := by kernel_rfl
theorem s48 : elemSl Try.prog 48 = some 33 := by kernel_rfl
theorem ar48 : elemAr Try.prog 48 = none := by kernel_rfl
theorem z48 : zeroD Try.prog 48 = some (.slice []) := by kernel_rfl
theorem c56 : Try.prog.cellsOf 56 = 1 := by kernel_rfl
theorem b56 : Try.prog.bytesOf 56 = 24 := by kernel_rfl
theorem a56 : aggT Try.prog 56 = false := by kernel_rfl
theorem us56 : (Try.prog.underlying 56).isSome = true := by kernel_rfl
theorem s56 : elemSl Try.prog 56 = some 5 := by kernel_rfl
theorem ar56 : elemAr Try.prog 56 = none := by kernel_rfl
theorem z56 : zeroD Try.prog 56 = some (.slice []) := by kernel_rfl
theorem c74 : Try.prog.cellsOf 74 = 1 := by kernel_rfl
theorem b74 : Try.prog.bytesOf 74 = 24 := by kernel_rfl
theorem a74 : aggT Try.prog 74 = false := by kernel_rfl
theorem us74 : (Try.prog.underlying 74).isSome = true := by kernel_rfl
theorem s74 : elemSl Try.prog 74 = some 133 := by kernel_rfl
theorem ar74 : elemAr Try.prog 74 = none := by kernel_rfl
theorem z74 : zeroD Try.prog 74 = some (.slice []) := by kernel_rfl
theorem c92 : Try.prog.cellsOf 92 = 6 := by kernel_rfl
theorem b92 : Try.prog.bytesOf 92 = 144 := by kernel_rfl
theorem a92 : aggT Try.prog 92 = true := by kernel_rfl
theorem us92 : (Try.prog.underlying 92).isSome = true := by kernel_rfl
theorem s92 : elemSl Try.prog 92 = none := by kernel_rfl
theorem ar92 : elemAr Try.prog 92 = none := by kernel_rfl
theorem z92 : zeroD Try.prog 92 = some (.agg [(.slice []), (.slice []), (.slice []), (.slice []), (.slice []), (.slice [])]) := by kernel_rfl
theorem f92_0 : fieldOf Try.prog 92 0 = some (0, 33) := by kernel_rfl
theorem p92_0 : places Try.prog 92 0 = some (0, 1) := by kernel_rfl
theorem f92_1 : fieldOf Try.prog 92 1 = some (1, 22) := by kernel_rfl
theorem p92_1 : places Try.prog 92 1 = some (1, 1) := by kernel_rfl
theorem f92_2 : fieldOf Try.prog 92 2 = some (2, 22) := by kernel_rfl
theorem p92_2 : places Try.prog 92 2 = some (2, 1) := by kernel_rfl
theorem f92_3 : fieldOf Try.prog 92 3 = some (3, 22) := by kernel_rfl
theorem p92_3 : places Try.prog 92 3 = some (3, 1) := by kernel_rfl
theorem f92_4 : fieldOf Try.prog 92 4 = some (4, 22) := by kernel_rfl
theorem p92_4 : places Try.prog 92 4 = some (4, 1) := by kernel_rfl
theorem f92_5 : fieldOf Try.prog 92 5 = some (5, 33) := by kernel_rfl
theorem p92_5 : places Try.prog 92 5 = some (5, 1) := by kernel_rfl
theorem pu92 : partsU Try.prog 92 = true := by kernel_rfl
theorem c93 : Try.prog.cellsOf 93 = 6 := by kernel_rfl
theorem b93 : Try.prog.bytesOf 93 = 144 := by kernel_rfl
theorem a93 : aggT Try.prog 93 = true := by kernel_rfl
theorem us93 : (Try.prog.underlying 93).isSome = true := by kernel_rfl
theorem s93 : elemSl Try.prog 93 = none := by kernel_rfl
theorem ar93 : elemAr Try.prog 93 = none := by kernel_rfl
theorem z93 : zeroD Try.prog 93 = some (.agg [(.slice []), (.slice []), (.slice []), (.slice []), (.slice []), (.slice [])]) := by kernel_rfl
theorem f93_0 : fieldOf Try.prog 93 0 = some (0, 33) := by kernel_rfl
theorem p93_0 : places Try.prog 93 0 = some (0, 1) := by kernel_rfl
theorem f93_1 : fieldOf Try.prog 93 1 = some (1, 22) := by kernel_rfl
theorem p93_1 : places Try.prog 93 1 = some (1, 1) := by kernel_rfl
theorem f93_2 : fieldOf Try.prog 93 2 = some (2, 22) := by kernel_rfl
theorem p93_2 : places Try.prog 93 2 = some (2, 1) := by kernel_rfl
theorem f93_3 : fieldOf Try.prog 93 3 = some (3, 22) := by kernel_rfl
theorem p93_3 : places Try.prog 93 3 = some (3, 1) := by kernel_rfl
theorem f93_4 : fieldOf Try.prog 93 4 = some (4, 22) := by kernel_rfl
theorem p93_4 : places Try.prog 93 4 = some (4, 1) := by kernel_rfl
theorem f93_5 : fieldOf Try.prog 93 5 = some (5, 33) := by kernel_rfl
theorem p93_5 : places Try.prog 93 5 = some (5, 1) := by kernel_rfl
theorem pu93 : partsU Try.prog 93 = true := by kernel_rfl
theorem c96 : Try.prog.cellsOf 96 = 1 := by kernel_rfl
theorem b96 : Try.prog.bytesOf 96 = 8 := by kernel_rfl
theorem a96 : aggT Try.prog 96 = false := by kernel_rfl
theorem us96 : (Try.prog.underlying 96).isSome = true := by kernel_rfl
theorem s96 : elemSl Try.prog 96 = none := by kernel_rfl
theorem ar96 : elemAr Try.prog 96 = none := by kernel_rfl
theorem z96 : zeroD Try.prog 96 = some .nilptr := by kernel_rfl
theorem c102 : Try.prog.cellsOf 102 = 1 := by kernel_rfl
theorem b102 : Try.prog.bytesOf 102 = 24 := by kernel_rfl
theorem a102 : aggT Try.prog 102 = false := by kernel_rfl
theorem us102 : (Try.prog.underlying 102).isSome = true := by kernel_rfl
theorem s102 : elemSl Try.prog 102 = some 145 := by kernel_rfl
theorem ar102 : elemAr Try.prog 102 = none := by kernel_rfl
theorem z102 : zeroD Try.prog 102 = some (.slice []) := by kernel_rfl
theorem c104 : Try.prog.cellsOf 104 = 3 := by kernel_rfl
theorem b104 : Try.prog.bytesOf 104 = 40 := by kernel_rfl
theorem a104 : aggT Try.prog 104 = true := by kernel_rfl
theorem us104 : (Try.prog.underlying 104).isSome = true := by kernel_rfl
theorem s104 : elemSl Try.prog 104 = none := by kernel_rfl
theorem ar104 : elemAr Try.prog 104 = none := by kernel_rfl
theorem f104_0 : fieldOf Try.prog 104 0 = some (0, 102) := by kernel_rfl
theorem p104_0 : places Try.prog 104 0 = some (0, 1) := by kernel_rfl
theorem f104_1 : fieldOf Try.prog 104 1 = some (1, 103) := by kernel_rfl
theorem f104_2 : fieldOf Try.prog 104 2 = some (2, 3) := by kernel_rfl
theorem p104_2 : places Try.prog 104 2 = some (2, 1) := by kernel_rfl
theorem pu104 : partsU Try.prog 104 = true := by kernel_rfl
theorem c105 : Try.prog.cellsOf 105 = 3 := by kernel_rfl
theorem b105 : Try.prog.bytesOf 105 = 40 := by kernel_rfl
theorem a105 : aggT Try.prog 105 = true := by kernel_rfl
theorem us105 : (Try.prog.underlying 105).isSome = true := by kernel_rfl
theorem s105 : elemSl Try.prog 105 = none := by kernel_rfl
theorem ar105 : elemAr Try.prog 105 = none := by kernel_rfl
theorem f105_0 : fieldOf Try.prog 105 0 = some (0, 102) := by kernel_rfl
theorem p105_0 : places Try.prog 105 0 = some (0, 1) := by kernel_rfl
theorem f105_1 : fieldOf Try.prog 105 1 = some (1, 103) := by kernel_rfl
theorem f105_2 : fieldOf Try.prog 105 2 = some (2, 3) := by kernel_rfl
theorem p105_2 : places Try.prog 105 2 = some (2, 1) := by kernel_rfl
theorem pu105 : partsU Try.prog 105 = true := by kernel_rfl
theorem c111 : Try.prog.cellsOf 111 = 1 := by kernel_rfl
theorem b111 : Try.prog.bytesOf 111 = 8 := by kernel_rfl
theorem a111 : aggT Try.prog 111 = false := by kernel_rfl
theorem us111 : (Try.prog.underlying 111).isSome = true := by kernel_rfl
theorem s111 : elemSl Try.prog 111 = none := by kernel_rfl
theorem ar111 : elemAr Try.prog 111 = none := by kernel_rfl
theorem z111 : zeroD Try.prog 111 = some .nilptr := by kernel_rfl
theorem c112 : Try.prog.cellsOf 112 = 1 := by kernel_rfl
theorem b112 : Try.prog.bytesOf 112 = 8 := by kernel_rfl
theorem a112 : aggT Try.prog 112 = false := by kernel_rfl
theorem us112 : (Try.prog.underlying 112).isSome = true := by kernel_rfl
theorem s112 : elemSl Try.prog 112 = none := by kernel_rfl
theorem ar112 : elemAr Try.prog 112 = none := by kernel_rfl
theorem k112 : Try.prog.underlying 112 = some (.int .u64) := by kernel_rfl
theorem z112 : zeroD Try.prog 112 = some (.int .u64 0) := by kernel_rfl
theorem c113 : Try.prog.cellsOf 113 = 3 := by kernel_rfl
theorem b113 : Try.prog.bytesOf 113 = 40 := by kernel_rfl
theorem a113 : aggT Try.prog 113 = true := by kernel_rfl
theorem us113 : (Try.prog.underlying 113).isSome = true := by kernel_rfl
theorem s113 : elemSl Try.prog 113 = none := by kernel_rfl
theorem ar113 : elemAr Try.prog 113 = none := by kernel_rfl
theorem z113 : zeroD Try.prog 113 = some (.agg [(.slice []), (.int .i64 0), (.int .u64 0)]) := by kernel_rfl
theorem f113_0 : fieldOf Try.prog 113 0 = some (0, 56) := by kernel_rfl
theorem p113_0 : places Try.prog 113 0 = some (0, 1) := by kernel_rfl
theorem f113_1 : fieldOf Try.prog 113 1 = some (1, 3) := by kernel_rfl
theorem p113_1 : places Try.prog 113 1 = some (1, 1) := by kernel_rfl
theorem f113_2 : fieldOf Try.prog 113 2 = some (2, 112) := by kernel_rfl
theorem p113_2 : places Try.prog 113 2 = some (2, 1) := by kernel_rfl
theorem pu113 : partsU Try.prog 113 = true := by kernel_rfl
theorem c114 : Try.prog.cellsOf 114 = 3 := by kernel_rfl
theorem b114 : Try.prog.bytesOf 114 = 40 := by kernel_rfl
theorem a114 : aggT Try.prog 114 = true := by kernel_rfl
theorem us114 : (Try.prog.underlying 114).isSome = true := by kernel_rfl
theorem s114 : elemSl Try.prog 114 = none := by kernel_rfl
theorem ar114 : elemAr Try.prog 114 = none := by kernel_rfl
theorem z114 : zeroD Try.prog 114 = some (.agg [(.slice []), (.int .i64 0), (.int .u64 0)]) := by kernel_rfl
theorem f114_0 : fieldOf Try.prog 114 0 = some (0, 56) := by kernel_rfl
theorem p114_0 : places Try.prog 114 0 = some (0, 1) := by kernel_rfl
theorem f114_1 : fieldOf Try.prog 114 1 = some (1, 3) := by kernel_rfl
theorem p114_1 : places Try.prog 114 1 = some (1, 1) := by kernel_rfl
theorem f114_2 : fieldOf Try.prog 114 2 = some (2, 112) := by kernel_rfl
theorem p114_2 : places Try.prog 114 2 = some (2, 1) := by kernel_rfl
theorem pu114 : partsU Try.prog 114 = true := by kernel_rfl
theorem c127 : Try.prog.cellsOf 127 = 1 := by kernel_rfl
theorem b127 : Try.prog.bytesOf 127 = 8 := by kernel_rfl
theorem a127 : aggT Try.prog 127 = false := by kernel_rfl
theorem us127 : (Try.prog.underlying 127).isSome = true := by kernel_rfl
theorem s127 : elemSl Try.prog 127 = none := by kernel_rfl
theorem ar127 : elemAr Try.prog 127 = none := by kernel_rfl
theorem z127 : zeroD Try.prog 127 = some .nilptr := by kernel_rfl
theorem c128 : Try.prog.cellsOf 128 = 2 := by kernel_rfl
theorem b128 : Try.prog.bytesOf 128 = 32 := by kernel_rfl
theorem a128 : aggT Try.prog 128 = true := by kernel_rfl
theorem us128 : (Try.prog.underlying 128).isSome = true := by kernel_rfl
theorem s128 : elemSl Try.prog 128 = none := by kernel_rfl
theorem ar128 : elemAr Try.prog 128 = none := by kernel_rfl
theorem z128 : zeroD Try.prog 128 = some (.agg [(.int .i64 0), (.slice [])]) := by kernel_rfl
theorem f128_0 : fieldOf Try.prog 128 0 = some (0, 3) := by kernel_rfl
theorem p128_0 : places Try.prog 128 0 = some (0, 1) := by kernel_rfl
theorem f128_1 : fieldOf Try.prog 128 1 = some (1, 74) := by kernel_rfl
theorem p128_1 : places Try.prog 128 1 = some (1, 1) := by kernel_rfl
theorem pu128 : partsU Try.prog 128 = true := by kernel_rfl
theorem c129 : Try.prog.cellsOf 129 = 2 := by kernel_rfl
theorem b129 : Try.prog.bytesOf 129 = 32 := by kernel_rfl
theorem a129 : aggT Try.prog 129 = true := by kernel_rfl
theorem us129 : (Try.prog.underlying 129).isSome = true := by kernel_rfl
theorem s129 : elemSl Try.prog 129 = none := by kernel_rfl
theorem ar129 : elemAr Try.prog 129 = none := by kernel_rfl
theorem z129 : zeroD Try.prog 129 = some (.agg [(.int .i64 0), (.slice [])]) := by kernel_rfl
theorem f129_0 : fieldOf Try.prog 129 0 = some (0, 3) := by kernel_rfl
theorem p129_0 : places Try.prog 129 0 = some (0, 1) := by kernel_rfl
theorem f129_1 : fieldOf Try.prog 129 1 = some (1, 74) := by kernel_rfl
theorem p129_1 : places Try.prog 129 1 = some (1, 1) := by kernel_rfl
theorem pu129 : partsU Try.prog 129 = true := by kernel_rfl
theorem c132 : Try.prog.cellsOf 132 = 6 := by kernel_rfl
theorem b132 : Try.prog.bytesOf 132 = 64 := by kernel_rfl
theorem a132 : aggT Try.prog 132 = true := by kernel_rfl
theorem us132 : (Try.prog.underlying 132).isSome = true := by kernel_rfl
theorem s132 : elemSl Try.prog 132 = none := by kernel_rfl
theorem ar132 : elemAr Try.prog 132 = none := by kernel_rfl
theorem z132 : zeroD Try.prog 132 = some (.agg [(.slice []), (.int .i64 0), (.int .i64 0), (.int .i64 0), (.int .i64 0), (.int .i64 0)]) := by kernel_rfl
theorem f132_0 : fieldOf Try.prog 132 0 = some (0, 24) := by kernel_rfl
theorem p132_0 : places Try.prog 132 0 = some (0, 2) := by kernel_rfl
theorem f132_1 : fieldOf Try.prog 132 1 = some (2, 3) := by kernel_rfl
theorem p132_1 : places Try.prog 132 1 = some (2, 1) := by kernel_rfl
theorem f132_2 : fieldOf Try.prog 132 2 = some (3, 3) := by kernel_rfl
theorem p132_2 : places Try.prog 132 2 = some (3, 1) := by kernel_rfl
theorem f132_3 : fieldOf Try.prog 132 3 = some (4, 3) := by kernel_rfl
theorem p132_3 : places Try.prog 132 3 = some (4, 1) := by kernel_rfl
theorem f132_4 : fieldOf Try.prog 132 4 = some (5, 3) := by kernel_rfl
theorem p132_4 : places Try.prog 132 4 = some (5, 1) := by kernel_rfl
theorem pu132 : partsU Try.prog 132 = true := by kernel_rfl
theorem c133 : Try.prog.cellsOf 133 = 6 := by kernel_rfl
theorem b133 : Try.prog.bytesOf 133 = 64 := by kernel_rfl
theorem a133 : aggT Try.prog 133 = true := by kernel_rfl
theorem us133 : (Try.prog.underlying 133).isSome = true := by kernel_rfl
theorem s133 : elemSl Try.prog 133 = none := by kernel_rfl
theorem ar133 : elemAr Try.prog 133 = none := by kernel_rfl
theorem z133 : zeroD Try.prog 133 = some (.agg [(.slice []), (.int .i64 0), (.int .i64 0), (.int .i64 0), (.int .i64 0), (.int .i64 0)]) := by kernel_rfl
theorem f133_0 : fieldOf Try.prog 133 0 = some (0, 24) := by kernel_rfl
theorem p133_0 : places Try.prog 133 0 = some (0, 2) := by kernel_rfl
theorem f133_1 : fieldOf Try.prog 133 1 = some (2, 3) := by kernel_rfl
theorem p133_1 : places Try.prog 133 1 = some (2, 1) := by kernel_rfl
theorem f133_2 : fieldOf Try.prog 133 2 = some (3, 3) := by kernel_rfl
theorem p133_2 : places Try.prog 133 2 = some (3, 1) := by kernel_rfl
theorem f133_3 : fieldOf Try.prog 133 3 = some (4, 3) := by kernel_rfl
theorem p133_3 : places Try.prog 133 3 = some (4, 1) := by kernel_rfl
theorem f133_4 : fieldOf Try.prog 133 4 = some (5, 3) := by kernel_rfl
theorem p133_4 : places Try.prog 133 4 = some (5, 1) := by kernel_rfl
theorem pu133 : partsU Try.prog 133 = true := by kernel_rfl
theorem c144 : Try.prog.cellsOf 144 = 1 := by kernel_rfl
theorem b144 : Try.prog.bytesOf 144 = 2 := by kernel_rfl
theorem a144 : aggT Try.prog 144 = false := by kernel_rfl
theorem us144 : (Try.prog.underlying 144).isSome = true := by kernel_rfl
theorem s144 : elemSl Try.prog 144 = none := by kernel_rfl
theorem ar144 : elemAr Try.prog 144 = none := by kernel_rfl
theorem k144 : Try.prog.underlying 144 = some (.int .u16) := by kernel_rfl
theorem z144 : zeroD Try.prog 144 = some (.int .u16 0) := by kernel_rfl
theorem c145 : Try.prog.cellsOf 145 = 1 := by kernel_rfl
theorem b145 : Try.prog.bytesOf 145 = 2 := by kernel_rfl
theorem a145 : aggT Try.prog 145 = false := by kernel_rfl
theorem us145 : (Try.prog.underlying 145).isSome = true := by kernel_rfl
theorem s145 : elemSl Try.prog 145 = none := by kernel_rfl
theorem ar145 : elemAr Try.prog 145 = none := by kernel_rfl
theorem k145 : Try.prog.underlying 145 = some (.int .u16) := by kernel_rfl
theorem z145 : zeroD Try.prog 145 = some (.int .u16 0) := by kernel_rfl
theorem c149 : Try.prog.cellsOf 149 = 1 := by kernel_rfl
theorem b149 : Try.prog.bytesOf 149 = 8 := by kernel_rfl
theorem a149 : aggT Try.prog 149 = false := by kernel_rfl
theorem us149 : (Try.prog.underlying 149).isSome = true := by kernel_rfl
theorem s149 : elemSl Try.prog 149 = none := by kernel_rfl
theorem ar149 : elemAr Try.prog 149 = none := by kernel_rfl
theorem k149 : Try.prog.underlying 149 = some (.int .u64) := by kernel_rfl
theorem z149 : zeroD Try.prog 149 = some (.int .u64 0) := by kernel_rfl
theorem c172 : Try.prog.cellsOf 172 = 1 := by kernel_rfl
theorem b172 : Try.prog.bytesOf 172 = 8 := by kernel_rfl
theorem a172 : aggT Try.prog 172 = false := by kernel_rfl
theorem us172 : (Try.prog.underlying 172).isSome = true := by kernel_rfl
theorem s172 : elemSl Try.prog 172 = none := by kernel_rfl
theorem ar172 : elemAr Try.prog 172 = none := by kernel_rfl
theorem z172 : zeroD Try.prog 172 = some .nilptr := by kernel_rfl
theorem c173 : Try.prog.cellsOf 173 = 2 := by kernel_rfl
theorem b173 : Try.prog.bytesOf 173 = 32 := by kernel_rfl
theorem a173 : aggT Try.prog 173 = true := by kernel_rfl
theorem us173 : (Try.prog.underlying 173).isSome = true := by kernel_rfl
theorem s173 : elemSl Try.prog 173 = none := by kernel_rfl
theorem ar173 : elemAr Try.prog 173 = none := by kernel_rfl
theorem z173 : zeroD Try.prog 173 = some (.agg [(.int .i64 0), (.slice [])]) := by kernel_rfl
theorem f173_0 : fieldOf Try.prog 173 0 = some (0, 3) := by kernel_rfl
theorem p173_0 : places Try.prog 173 0 = some (0, 1) := by kernel_rfl
theorem f173_1 : fieldOf Try.prog 173 1 = some (1, 33) := by kernel_rfl
theorem p173_1 : places Try.prog 173 1 = some (1, 1) := by kernel_rfl
theorem pu173 : partsU Try.prog 173 = true := by kernel_rfl
theorem c174 : Try.prog.cellsOf 174 = 2 := by kernel_rfl
theorem b174 : Try.prog.bytesOf 174 = 32 := by kernel_rfl
theorem a174 : aggT Try.prog 174 = true := by kernel_rfl
theorem us174 : (Try.prog.underlying 174).isSome = true := by kernel_rfl
theorem s174 : elemSl Try.prog 174 = none := by kernel_rfl
theorem ar174 : elemAr Try.prog 174 = none := by kernel_rfl
theorem z174 : zeroD Try.prog 174 = some (.agg [(.int .i64 0), (.slice [])]) := by kernel_rfl
theorem f174_0 : fieldOf Try.prog 174 0 = some (0, 3) := by kernel_rfl
theorem p174_0 : places Try.prog 174 0 = some (0, 1) := by kernel_rfl
theorem f174_1 : fieldOf Try.prog 174 1 = some (1, 33) := by kernel_rfl
theorem p174_1 : places Try.prog 174 1 = some (1, 1) := by kernel_rfl
theorem pu174 : partsU Try.prog 174 = true := by kernel_rfl
theorem c178 : Try.prog.cellsOf 178 = 1 := by kernel_rfl
theorem b178 : Try.prog.bytesOf 178 = 8 := by kernel_rfl
theorem a178 : aggT Try.prog 178 = false := by kernel_rfl
theorem us178 : (Try.prog.underlying 178).isSome = true := by kernel_rfl
theorem s178 : elemSl Try.prog 178 = none := by kernel_rfl
theorem ar178 : elemAr Try.prog 178 = none := by kernel_rfl
theorem k178 : Try.prog.underlying 178 = some (.int .i64) := by kernel_rfl
theorem z178 : zeroD Try.prog 178 = some (.int .i64 0) := by kernel_rfl
theorem c185 : Try.prog.cellsOf 185 = 1 := by kernel_rfl
theorem b185 : Try.prog.bytesOf 185 = 4 := by kernel_rfl
theorem a185 : aggT Try.prog 185 = false := by kernel_rfl
theorem us185 : (Try.prog.underlying 185).isSome = true := by kernel_rfl
theorem s185 : elemSl Try.prog 185 = none := by kernel_rfl
theorem ar185 : elemAr Try.prog 185 = none := by kernel_rfl
theorem k185 : Try.prog.underlying 185 = some (.int .u32) := by kernel_rfl
theorem z185 : zeroD Try.prog 185 = some (.int .u32 0) := by kernel_rfl
theorem c194 : Try.prog.cellsOf 194 = 1 := by kernel_rfl
theorem b194 : Try.prog.bytesOf 194 = 8 := by kernel_rfl
theorem a194 : aggT Try.prog 194 = false := by kernel_rfl
theorem us194 : (Try.prog.underlying 194).isSome = true := by kernel_rfl
theorem s194 : elemSl Try.prog 194 = none := by kernel_rfl
theorem ar194 : elemAr Try.prog 194 = none := by kernel_rfl
theorem k194 : Try.prog.underlying 194 = some (.int .u64) := by kernel_rfl
theorem z194 : zeroD Try.prog 194 = some (.int .u64 0) := by kernel_rfl
theorem c198 : Try.prog.cellsOf 198 = 1 := by kernel_rfl
theorem b198 : Try.prog.bytesOf 198 = 8 := by kernel_rfl
theorem a198 : aggT Try.prog 198 = false := by kernel_rfl
theorem us198 : (Try.prog.underlying 198).isSome = true := by kernel_rfl
theorem s198 : elemSl Try.prog 198 = none := by kernel_rfl
theorem ar198 : elemAr Try.prog 198 = none := by kernel_rfl
theorem z198 : zeroD Try.prog 198 = some .nilptr := by kernel_rfl
theorem c202 : Try.prog.cellsOf 202 = 1 := by kernel_rfl
theorem b202 : Try.prog.bytesOf 202 = 8 := by kernel_rfl
theorem a202 : aggT Try.prog 202 = false := by kernel_rfl
theorem us202 : (Try.prog.underlying 202).isSome = true := by kernel_rfl
theorem s202 : elemSl Try.prog 202 = none := by kernel_rfl
theorem ar202 : elemAr Try.prog 202 = none := by kernel_rfl
theorem z202 : zeroD Try.prog 202 = some .nilptr := by kernel_rfl
theorem c207 : Try.prog.cellsOf 207 = 4 := by kernel_rfl
theorem b207 : Try.prog.bytesOf 207 = 40 := by kernel_rfl
theorem a207 : aggT Try.prog 207 = true := by kernel_rfl
theorem us207 : (Try.prog.underlying 207).isSome = true := by kernel_rfl
theorem s207 : elemSl Try.prog 207 = none := by kernel_rfl
theorem ar207 : elemAr Try.prog 207 = none := by kernel_rfl
theorem z207 : zeroD Try.prog 207 = some (.agg [.nilptr, .nilptr, .nilptr, (.str ByteArray.empty)]) := by kernel_rfl
theorem f207_0 : fieldOf Try.prog 207 0 = some (0, 17) := by kernel_rfl
theorem p207_0 : places Try.prog 207 0 = some (0, 1) := by kernel_rfl
theorem f207_1 : fieldOf Try.prog 207 1 = some (1, 17) := by kernel_rfl
theorem p207_1 : places Try.prog 207 1 = some (1, 1) := by kernel_rfl
theorem f207_2 : fieldOf Try.prog 207 2 = some (2, 17) := by kernel_rfl
theorem p207_2 : places Try.prog 207 2 = some (2, 1) := by kernel_rfl
theorem f207_3 : fieldOf Try.prog 207 3 = some (3, 9) := by kernel_rfl
theorem p207_3 : places Try.prog 207 3 = some (3, 1) := by kernel_rfl
theorem pu207 : partsU Try.prog 207 = true := by kernel_rfl
theorem c208 : Try.prog.cellsOf 208 = 4 := by kernel_rfl
theorem b208 : Try.prog.bytesOf 208 = 40 := by kernel_rfl
theorem a208 : aggT Try.prog 208 = true := by kernel_rfl
theorem us208 : (Try.prog.underlying 208).isSome = true := by kernel_rfl
theorem s208 : elemSl Try.prog 208 = none := by kernel_rfl
theorem ar208 : elemAr Try.prog 208 = none := by kernel_rfl
theorem z208 : zeroD Try.prog 208 = some (.agg [.nilptr, .nilptr, .nilptr, (.str ByteArray.empty)]) := by kernel_rfl
theorem f208_0 : fieldOf Try.prog 208 0 = some (0, 17) := by kernel_rfl
theorem p208_0 : places Try.prog 208 0 = some (0, 1) := by kernel_rfl
theorem f208_1 : fieldOf Try.prog 208 1 = some (1, 17) := by kernel_rfl
theorem p208_1 : places Try.prog 208 1 = some (1, 1) := by kernel_rfl
theorem f208_2 : fieldOf Try.prog 208 2 = some (2, 17) := by kernel_rfl
theorem p208_2 : places Try.prog 208 2 = some (2, 1) := by kernel_rfl
theorem f208_3 : fieldOf Try.prog 208 3 = some (3, 9) := by kernel_rfl
theorem p208_3 : places Try.prog 208 3 = some (3, 1) := by kernel_rfl
theorem pu208 : partsU Try.prog 208 = true := by kernel_rfl
theorem c209 : Try.prog.cellsOf 209 = 0 := by kernel_rfl
theorem b209 : Try.prog.bytesOf 209 = 0 := by kernel_rfl
theorem a209 : aggT Try.prog 209 = true := by kernel_rfl
theorem us209 : (Try.prog.underlying 209).isSome = true := by kernel_rfl
theorem s209 : elemSl Try.prog 209 = none := by kernel_rfl
theorem ar209 : elemAr Try.prog 209 = some (0, 16) := by kernel_rfl
theorem z209 : zeroD Try.prog 209 = some (.agg []) := by kernel_rfl
theorem pu209 : partsU Try.prog 209 = true := by kernel_rfl
theorem c210 : Try.prog.cellsOf 210 = 0 := by kernel_rfl
theorem b210 : Try.prog.bytesOf 210 = 0 := by kernel_rfl
theorem a210 : aggT Try.prog 210 = true := by kernel_rfl
theorem us210 : (Try.prog.underlying 210).isSome = true := by kernel_rfl
theorem s210 : elemSl Try.prog 210 = none := by kernel_rfl
theorem ar210 : elemAr Try.prog 210 = none := by kernel_rfl
theorem z210 : zeroD Try.prog 210 = some (.agg []) := by kernel_rfl
theorem f210_0 : fieldOf Try.prog 210 0 = some (0, 209) := by kernel_rfl
theorem p210_0 : places Try.prog 210 0 = some (0, 0) := by kernel_rfl
theorem pu210 : partsU Try.prog 210 = true := by kernel_rfl
theorem c211 : Try.prog.cellsOf 211 = 0 := by kernel_rfl
theorem b211 : Try.prog.bytesOf 211 = 0 := by kernel_rfl
theorem a211 : aggT Try.prog 211 = true := by kernel_rfl
theorem us211 : (Try.prog.underlying 211).isSome = true := by kernel_rfl
theorem s211 : elemSl Try.prog 211 = none := by kernel_rfl
theorem ar211 : elemAr Try.prog 211 = none := by kernel_rfl
theorem z211 : zeroD Try.prog 211 = some (.agg []) := by kernel_rfl
theorem f211_0 : fieldOf Try.prog 211 0 = some (0, 209) := by kernel_rfl
theorem p211_0 : places Try.prog 211 0 = some (0, 0) := by kernel_rfl
theorem pu211 : partsU Try.prog 211 = true := by kernel_rfl
theorem c212 : Try.prog.cellsOf 212 = 1 := by kernel_rfl
theorem b212 : Try.prog.bytesOf 212 = 1 := by kernel_rfl
theorem a212 : aggT Try.prog 212 = false := by kernel_rfl
theorem us212 : (Try.prog.underlying 212).isSome = true := by kernel_rfl
theorem s212 : elemSl Try.prog 212 = none := by kernel_rfl
theorem ar212 : elemAr Try.prog 212 = none := by kernel_rfl
theorem k212 : Try.prog.underlying 212 = some (.int .u8) := by kernel_rfl
theorem z212 : zeroD Try.prog 212 = some (.int .u8 0) := by kernel_rfl
theorem c213 : Try.prog.cellsOf 213 = 1 := by kernel_rfl
theorem b213 : Try.prog.bytesOf 213 = 1 := by kernel_rfl
theorem a213 : aggT Try.prog 213 = false := by kernel_rfl
theorem us213 : (Try.prog.underlying 213).isSome = true := by kernel_rfl
theorem s213 : elemSl Try.prog 213 = none := by kernel_rfl
theorem ar213 : elemAr Try.prog 213 = none := by kernel_rfl
theorem k213 : Try.prog.underlying 213 = some (.int .u8) := by kernel_rfl
theorem z213 : zeroD Try.prog 213 = some (.int .u8 0) := by kernel_rfl
theorem c215 : Try.prog.cellsOf 215 = 1 := by kernel_rfl
theorem b215 : Try.prog.bytesOf 215 = 8 := by kernel_rfl
theorem a215 : aggT Try.prog 215 = false := by kernel_rfl
theorem us215 : (Try.prog.underlying 215).isSome = true := by kernel_rfl
theorem s215 : elemSl Try.prog 215 = none := by kernel_rfl
theorem ar215 : elemAr Try.prog 215 = none := by kernel_rfl
theorem z215 : zeroD Try.prog 215 = some .nilptr := by kernel_rfl
theorem c216 : Try.prog.cellsOf 216 = 1 := by kernel_rfl
theorem b216 : Try.prog.bytesOf 216 = 4 := by kernel_rfl
theorem a216 : aggT Try.prog 216 = false := by kernel_rfl
theorem us216 : (Try.prog.underlying 216).isSome = true := by kernel_rfl
theorem s216 : elemSl Try.prog 216 = none := by kernel_rfl
theorem ar216 : elemAr Try.prog 216 = none := by kernel_rfl
theorem k216 : Try.prog.underlying 216 = some (.int .i32) := by kernel_rfl
theorem z216 : zeroD Try.prog 216 = some (.int .i32 0) := by kernel_rfl
theorem c217 : Try.prog.cellsOf 217 = 1 := by kernel_rfl
theorem b217 : Try.prog.bytesOf 217 = 4 := by kernel_rfl
theorem a217 : aggT Try.prog 217 = false := by kernel_rfl
theorem us217 : (Try.prog.underlying 217).isSome = true := by kernel_rfl
theorem s217 : elemSl Try.prog 217 = none := by kernel_rfl
theorem ar217 : elemAr Try.prog 217 = none := by kernel_rfl
theorem k217 : Try.prog.underlying 217 = some (.int .i32) := by kernel_rfl
theorem z217 : zeroD Try.prog 217 = some (.int .i32 0) := by kernel_rfl
theorem c218 : Try.prog.cellsOf 218 = 11 := by kernel_rfl
theorem b218 : Try.prog.bytesOf 218 = 48 := by kernel_rfl
theorem a218 : aggT Try.prog 218 = true := by kernel_rfl
theorem us218 : (Try.prog.underlying 218).isSome = true := by kernel_rfl
theorem s218 : elemSl Try.prog 218 = none := by kernel_rfl
theorem ar218 : elemAr Try.prog 218 = none := by kernel_rfl
theorem z218 : zeroD Try.prog 218 = some (.agg [(.int .u64 0), (.int .u64 0), (.int .u32 0), (.int .u8 0), (.int .u8 0), (.int .u8 0), (.int .u8 0), .nilfn, .nilptr, (.int .i32 0), (.int .i32 0)]) := by kernel_rfl
theorem f218_0 : fieldOf Try.prog 218 0 = some (0, 12) := by kernel_rfl
theorem p218_0 : places Try.prog 218 0 = some (0, 1) := by kernel_rfl
theorem f218_1 : fieldOf Try.prog 218 1 = some (1, 12) := by kernel_rfl
theorem p218_1 : places Try.prog 218 1 = some (1, 1) := by kernel_rfl
theorem f218_2 : fieldOf Try.prog 218 2 = some (2, 185) := by kernel_rfl
theorem p218_2 : places Try.prog 218 2 = some (2, 1) := by kernel_rfl
theorem f218_3 : fieldOf Try.prog 218 3 = some (3, 212) := by kernel_rfl
theorem p218_3 : places Try.prog 218 3 = some (3, 1) := by kernel_rfl
theorem f218_4 : fieldOf Try.prog 218 4 = some (4, 5) := by kernel_rfl
theorem p218_4 : places Try.prog 218 4 = some (4, 1) := by kernel_rfl
theorem f218_5 : fieldOf Try.prog 218 5 = some (5, 5) := by kernel_rfl
theorem p218_5 : places Try.prog 218 5 = some (5, 1) := by kernel_rfl
theorem f218_6 : fieldOf Try.prog 218 6 = some (6, 213) := by kernel_rfl
theorem p218_6 : places Try.prog 218 6 = some (6, 1) := by kernel_rfl
theorem f218_7 : fieldOf Try.prog 218 7 = some (7, 214) := by kernel_rfl
theorem f218_8 : fieldOf Try.prog 218 8 = some (8, 215) := by kernel_rfl
theorem p218_8 : places Try.prog 218 8 = some (8, 1) := by kernel_rfl
theorem f218_9 : fieldOf Try.prog 218 9 = some (9, 216) := by kernel_rfl
theorem p218_9 : places Try.prog 218 9 = some (9, 1) := by kernel_rfl
theorem f218_10 : fieldOf Try.prog 218 10 = some (10, 217) := by kernel_rfl
theorem p218_10 : places Try.prog 218 10 = some (10, 1) := by kernel_rfl
theorem pu218 : partsU Try.prog 218 = true := by kernel_rfl
theorem c219 : Try.prog.cellsOf 219 = 11 := by kernel_rfl
theorem b219 : Try.prog.bytesOf 219 = 48 := by kernel_rfl
theorem a219 : aggT Try.prog 219 = true := by kernel_rfl
theorem us219 : (Try.prog.underlying 219).isSome = true := by kernel_rfl
theorem s219 : elemSl Try.prog 219 = none := by kernel_rfl
theorem ar219 : elemAr Try.prog 219 = none := by kernel_rfl
theorem z219 : zeroD Try.prog 219 = some (.agg [(.int .u64 0), (.int .u64 0), (.int .u32 0), (.int .u8 0), (.int .u8 0), (.int .u8 0), (.int .u8 0), .nilfn, .nilptr, (.int .i32 0), (.int .i32 0)]) := by kernel_rfl
theorem f219_0 : fieldOf Try.prog 219 0 = some (0, 12) := by kernel_rfl
theorem p219_0 : places Try.prog 219 0 = some (0, 1) := by kernel_rfl
theorem f219_1 : fieldOf Try.prog 219 1 = some (1, 12) := by kernel_rfl
theorem p219_1 : places Try.prog 219 1 = some (1, 1) := by kernel_rfl
theorem f219_2 : fieldOf Try.prog 219 2 = some (2, 185) := by kernel_rfl
theorem p219_2 : places Try.prog 219 2 = some (2, 1) := by kernel_rfl
theorem f219_3 : fieldOf Try.prog 219 3 = some (3, 212) := by kernel_rfl
theorem p219_3 : places Try.prog 219 3 = some (3, 1) := by kernel_rfl
theorem f219_4 : fieldOf Try.prog 219 4 = some (4, 5) := by kernel_rfl
theorem p219_4 : places Try.prog 219 4 = some (4, 1) := by kernel_rfl
theorem f219_5 : fieldOf Try.prog 219 5 = some (5, 5) := by kernel_rfl
theorem p219_5 : places Try.prog 219 5 = some (5, 1) := by kernel_rfl
theorem f219_6 : fieldOf Try.prog 219 6 = some (6, 213) := by kernel_rfl
theorem p219_6 : places Try.prog 219 6 = some (6, 1) := by kernel_rfl
theorem f219_7 : fieldOf Try.prog 219 7 = some (7, 214) := by kernel_rfl
theorem f219_8 : fieldOf Try.prog 219 8 = some (8, 215) := by kernel_rfl
theorem p219_8 : places Try.prog 219 8 = some (8, 1) := by kernel_rfl
theorem f219_9 : fieldOf Try.prog 219 9 = some (9, 216) := by kernel_rfl
theorem p219_9 : places Try.prog 219 9 = some (9, 1) := by kernel_rfl
theorem f219_10 : fieldOf Try.prog 219 10 = some (10, 217) := by kernel_rfl
theorem p219_10 : places Try.prog 219 10 = some (10, 1) := by kernel_rfl
theorem pu219 : partsU Try.prog 219 = true := by kernel_rfl
attribute [go_sem] c2 b2 a2 us2 s2 ar2 k2 z2 c3 b3 a3 us3 s3 ar3 k3 z3 c4 b4 a4 us4 s4 ar4 bo4 z4 c5 b5 a5 us5 s5 ar5 k5 z5 c6 b6 a6 us6 s6 ar6 k6 z6
attribute [go_sem] c7 b7 a7 us7 s7 ar7 z7 f7_0 p7_0 f7_1 p7_1 f7_2 p7_2 f7_3 p7_3 pu7 c8 b8 a8 us8 s8 ar8 z8 f8_0 p8_0 f8_1 p8_1 f8_2 p8_2 f8_3 p8_3 pu8 c9 b9 a9 us9 s9 ar9 st9 z9
attribute [go_sem] c10 b10 a10 us10 s10 ar10 st10 z10 c11 b11 a11 us11 s11 ar11 st11 z11 c12 b12 a12 us12 s12 ar12 k12 z12 c13 b13 a13 us13 s13 ar13 z13 f13_0 p13_0 f13_1 p13_1 pu13 c14 b14 a14 us14
attribute [go_sem] s14 ar14 z14 f14_0 p14_0 f14_1 p14_1 pu14 c15 b15 a15 us15 s15 ar15 z15 c16 b16 a16 us16 s16 ar16 z16 c17 b17 a17 us17 s17 ar17 z17 c18 b18 a18 us18 s18 ar18 z18 f18_0 p18_0 pu18 c19
attribute [go_sem] b19 a19 us19 s19 ar19 z19 f19_0 p19_0 pu19 c21 b21 a21 us21 s21 ar21 k21 z21 c22 b22 a22 us22 s22 ar22 z22 c23 b23 a23 us23 s23 ar23 z23 f23_0 p23_0 f23_1 p23_1 pu23 c24 b24 a24 us24
attribute [go_sem] s24 ar24 z24 f24_0 p24_0 f24_1 p24_1 pu24 c33 b33 a33 us33 s33 ar33 z33 c34 b34 a34 us34 s34 ar34 z34 f34_0 p34_0 f34_1 p34_1 pu34 c35 b35 a35 us35 s35 ar35 z35 f35_0 p35_0 f35_1 p35_1 pu35 c39
attribute [go_sem] b39 a39 us39 s39 ar39 z39 f39_0 p39_0 f39_1 p39_1 pu39 c48 b48 a48 us48 s48 ar48 z48 c56 b56 a56 us56 s56 ar56 z56 c74 b74 a74 us74 s74 ar74 z74 c92 b92 a92 us92 s92 ar92 z92 f92_0
attribute [go_sem] p92_0 f92_1 p92_1 f92_2 p92_2 f92_3 p92_3 f92_4 p92_4 f92_5 p92_5 pu92 c93 b93 a93 us93 s93 ar93 z93 f93_0 p93_0 f93_1 p93_1 f93_2 p93_2 f93_3 p93_3 f93_4 p93_4 f93_5 p93_5 pu93 c96 b96 a96 us96 s96 ar96 z96 c102
attribute [go_sem] b102 a102 us102 s102 ar102 z102 c104 b104 a104 us104 s104 ar104 f104_0 p104_0 f104_1 f104_2 p104_2 pu104 c105 b105 a105 us105 s105 ar105 f105_0 p105_0 f105_1 f105_2 p105_2 pu105 c111 b111 a111 us111 s111 ar111 z111 c112 b112 a112
attribute [go_sem] us112 s112 ar112 k112 z112 c113 b113 a113 us113 s113 ar113 z113 f113_0 p113_0 f113_1 p113_1 f113_2 p113_2 pu113 c114 b114 a114 us114 s114 ar114 z114 f114_0 p114_0 f114_1 p114_1 f114_2 p114_2 pu114 c127 b127 a127 us127 s127 ar127 z127
attribute [go_sem] c128 b128 a128 us128 s128 ar128 z128 f128_0 p128_0 f128_1 p128_1 pu128 c129 b129 a129 us129 s129 ar129 z129 f129_0 p129_0 f129_1 p129_1 pu129 c132 b132 a132 us132 s132 ar132 z132 f132_0 p132_0 f132_1 p132_1 f132_2 p132_2 f132_3 p132_3 f132_4
attribute [go_sem] p132_4 pu132 c133 b133 a133 us133 s133 ar133 z133 f133_0 p133_0 f133_1 p133_1 f133_2 p133_2 f133_3 p133_3 f133_4 p133_4 pu133 c144 b144 a144 us144 s144 ar144 k144 z144 c145 b145 a145 us145 s145 ar145 k145 z145 c149 b149 a149 us149
attribute [go_sem] s149 ar149 k149 z149 c172 b172 a172 us172 s172 ar172 z172 c173 b173 a173 us173 s173 ar173 z173 f173_0 p173_0 f173_1 p173_1 pu173 c174 b174 a174 us174 s174 ar174 z174 f174_0 p174_0 f174_1 p174_1 pu174 c178 b178 a178 us178 s178
attribute [go_sem] ar178 k178 z178 c185 b185 a185 us185 s185 ar185 k185 z185 c194 b194 a194 us194 s194 ar194 k194 z194 c198 b198 a198 us198 s198 ar198 z198 c202 b202 a202 us202 s202 ar202 z202 c207 b207 a207 us207 s207 ar207 z207
attribute [go_sem] f207_0 p207_0 f207_1 p207_1 f207_2 p207_2 f207_3 p207_3 pu207 c208 b208 a208 us208 s208 ar208 z208 f208_0 p208_0 f208_1 p208_1 f208_2 p208_2 f208_3 p208_3 pu208 c209 b209 a209 us209 s209 ar209 z209 pu209 c210 b210 a210 us210 s210 ar210 z210
attribute [go_sem] f210_0 p210_0 pu210 c211 b211 a211 us211 s211 ar211 z211 f211_0 p211_0 pu211 c212 b212 a212 us212 s212 ar212 k212 z212 c213 b213 a213 us213 s213 ar213 k213 z213 c215 b215 a215 us215 s215 ar215 z215 c216 b216 a216 us216
attribute [go_sem] s216 ar216 k216 z216 c217 b217 a217 us217 s217 ar217 k217 z217 c218 b218 a218 us218 s218 ar218 z218 f218_0 p218_0 f218_1 p218_1 f218_2 p218_2 f218_3 p218_3 f218_4 p218_4 f218_5 p218_5 f218_6 p218_6 f218_7 f218_8 p218_8 f218_9 p218_9 f218_10 p218_10
attribute [go_sem] pu218 c219 b219 a219 us219 s219 ar219 z219 f219_0 p219_0 f219_1 p219_1 f219_2 p219_2 f219_3 p219_3 f219_4 p219_4 f219_5 p219_5 f219_6 p219_6 f219_7 f219_8 p219_8 f219_9 p219_9 f219_10 p219_10 pu219
end Abs.Y.Ty
