/- The facts on the types of this seat that the abstract walk asks for, by program. No condition. -/
import Derived.Test.YticigmfmodhfdaaAbsLib
import Derived.Test.YticigmfmodhfdaaAbsRow
import Derived.Test.YticigmfmodhfdaaChecked
set_option linter.all false
namespace Abs.Y.Ty
open Go Go.Proofs Abs
theorem c2 : Try.prog.cellsOf 2 = 1 := by kernel_rfl
theorem b2 : Try.prog.bytesOf 2 = 8 := by kernel_rfl
theorem a2 : aggT Try.prog 2 = false := by kernel_rfl
theorem s2 : elemSl Try.prog 2 = none := by kernel_rfl
theorem k2 : Try.prog.underlying 2 = some (.int .i64) := by kernel_rfl
theorem z2 : zeroD Try.prog 2 = some (.int .i64 0) := by kernel_rfl
theorem c3 : Try.prog.cellsOf 3 = 1 := by kernel_rfl
theorem b3 : Try.prog.bytesOf 3 = 8 := by kernel_rfl
theorem a3 : aggT Try.prog 3 = false := by kernel_rfl
theorem ar3 : elemAr Try.prog 3 = none := by kernel_rfl
theorem k3 : Try.prog.underlying 3 = some (.int .i64) := by kernel_rfl
theorem z3 : zeroD Try.prog 3 = some (.int .i64 0) := by kernel_rfl
theorem c4 : Try.prog.cellsOf 4 = 1 := by kernel_rfl
theorem b4 : Try.prog.bytesOf 4 = 1 := by kernel_rfl
theorem a4 : aggT Try.prog 4 = false := by kernel_rfl
theorem us4 : (Try.prog.underlying 4).isSome = true := by kernel_rfl
theorem bo4 : isBoolT Try.prog 4 = true := by kernel_rfl
theorem z4 : zeroD Try.prog 4 = some (.bool false) := by kernel_rfl
theorem c22 : Try.prog.cellsOf 22 = 1 := by kernel_rfl
theorem a22 : aggT Try.prog 22 = false := by kernel_rfl
theorem us22 : (Try.prog.underlying 22).isSome = true := by kernel_rfl
theorem s22 : elemSl Try.prog 22 = some 57 := by kernel_rfl
theorem c24 : Try.prog.cellsOf 24 = 2 := by kernel_rfl
theorem a24 : aggT Try.prog 24 = true := by kernel_rfl
theorem us24 : (Try.prog.underlying 24).isSome = true := by kernel_rfl
theorem ar24 : elemAr Try.prog 24 = none := by kernel_rfl
theorem f24_0 : fieldOf Try.prog 24 0 = some (0, 3) := by kernel_rfl
theorem f24_1 : fieldOf Try.prog 24 1 = some (1, 22) := by kernel_rfl
theorem c25 : Try.prog.cellsOf 25 = 1 := by kernel_rfl
theorem s25 : elemSl Try.prog 25 = some 83 := by kernel_rfl
theorem c28 : Try.prog.cellsOf 28 = 1 := by kernel_rfl
theorem a28 : aggT Try.prog 28 = false := by kernel_rfl
theorem us28 : (Try.prog.underlying 28).isSome = true := by kernel_rfl
theorem s28 : elemSl Try.prog 28 = some 89 := by kernel_rfl
theorem ar28 : elemAr Try.prog 28 = none := by kernel_rfl
theorem z28 : zeroD Try.prog 28 = some (.slice []) := by kernel_rfl
theorem c31 : Try.prog.cellsOf 31 = 2 := by kernel_rfl
theorem a31 : aggT Try.prog 31 = true := by kernel_rfl
theorem us31 : (Try.prog.underlying 31).isSome = true := by kernel_rfl
theorem ar31 : elemAr Try.prog 31 = none := by kernel_rfl
theorem z31 : zeroD Try.prog 31 = some (.agg [(.int .i64 0), (.slice [])]) := by kernel_rfl
theorem f31_0 : fieldOf Try.prog 31 0 = some (0, 3) := by kernel_rfl
theorem f31_1 : fieldOf Try.prog 31 1 = some (1, 22) := by kernel_rfl
theorem c57 : Try.prog.cellsOf 57 = 1 := by kernel_rfl
theorem b57 : Try.prog.bytesOf 57 = 24 := by kernel_rfl
theorem a57 : aggT Try.prog 57 = false := by kernel_rfl
theorem us57 : (Try.prog.underlying 57).isSome = true := by kernel_rfl
theorem s57 : elemSl Try.prog 57 = some 3 := by kernel_rfl
theorem z57 : zeroD Try.prog 57 = some (.slice []) := by kernel_rfl
theorem c81 : Try.prog.cellsOf 81 = 2 := by kernel_rfl
theorem a81 : aggT Try.prog 81 = true := by kernel_rfl
theorem us81 : (Try.prog.underlying 81).isSome = true := by kernel_rfl
theorem ar81 : elemAr Try.prog 81 = none := by kernel_rfl
theorem f81_0 : fieldOf Try.prog 81 0 = some (0, 57) := by kernel_rfl
theorem f81_1 : fieldOf Try.prog 81 1 = some (1, 3) := by kernel_rfl
theorem c83 : Try.prog.cellsOf 83 = 6 := by kernel_rfl
theorem a83 : aggT Try.prog 83 = true := by kernel_rfl
theorem us83 : (Try.prog.underlying 83).isSome = true := by kernel_rfl
theorem ar83 : elemAr Try.prog 83 = none := by kernel_rfl
theorem f83_0 : fieldOf Try.prog 83 0 = some (0, 81) := by kernel_rfl
theorem f83_1 : fieldOf Try.prog 83 1 = some (2, 3) := by kernel_rfl
theorem f83_2 : fieldOf Try.prog 83 2 = some (3, 3) := by kernel_rfl
theorem f83_3 : fieldOf Try.prog 83 3 = some (4, 3) := by kernel_rfl
theorem f83_4 : fieldOf Try.prog 83 4 = some (5, 3) := by kernel_rfl
theorem c87 : Try.prog.cellsOf 87 = 2 := by kernel_rfl
theorem a87 : aggT Try.prog 87 = true := by kernel_rfl
theorem us87 : (Try.prog.underlying 87).isSome = true := by kernel_rfl
theorem ar87 : elemAr Try.prog 87 = none := by kernel_rfl
theorem z87 : zeroD Try.prog 87 = some (.agg [(.slice []), (.int .i64 0)]) := by kernel_rfl
theorem f87_0 : fieldOf Try.prog 87 0 = some (0, 57) := by kernel_rfl
theorem p87_0 : places Try.prog 87 0 = some (0, 1) := by kernel_rfl
theorem f87_1 : fieldOf Try.prog 87 1 = some (1, 3) := by kernel_rfl
theorem p87_1 : places Try.prog 87 1 = some (1, 1) := by kernel_rfl
theorem pu87 : partsU Try.prog 87 = true := by kernel_rfl
theorem c89 : Try.prog.cellsOf 89 = 6 := by kernel_rfl
theorem b89 : Try.prog.bytesOf 89 = 64 := by kernel_rfl
theorem a89 : aggT Try.prog 89 = true := by kernel_rfl
theorem us89 : (Try.prog.underlying 89).isSome = true := by kernel_rfl
theorem ar89 : elemAr Try.prog 89 = none := by kernel_rfl
theorem z89 : zeroD Try.prog 89 = some (.agg [(.slice []), (.int .i64 0), (.int .i64 0), (.int .i64 0), (.int .i64 0), (.int .i64 0)]) := by kernel_rfl
theorem f89_0 : fieldOf Try.prog 89 0 = some (0, 87) := by kernel_rfl
theorem f89_1 : fieldOf Try.prog 89 1 = some (2, 3) := by kernel_rfl
theorem f89_2 : fieldOf Try.prog 89 2 = some (3, 3) := by kernel_rfl
theorem f89_3 : fieldOf Try.prog 89 3 = some (4, 3) := by kernel_rfl
theorem f89_4 : fieldOf Try.prog 89 4 = some (5, 3) := by kernel_rfl
theorem s168 : elemSl Try.prog 168 = some 4 := by kernel_rfl
attribute [go_sem] c2 b2 a2 s2 k2 z2 c3 b3 a3 ar3 k3 z3 c4 b4 a4 us4 bo4 z4
attribute [go_sem] c22 a22 us22 s22 c24 a24 us24
attribute [go_sem] ar24 f24_0 f24_1 c25 s25 c28 a28 us28 s28 ar28 z28 c31 a31 us31 ar31 z31 f31_0 f31_1
attribute [go_sem] c57 b57 a57 us57 s57 z57
attribute [go_sem] c81 a81 us81 ar81 f81_0 f81_1 c83
attribute [go_sem] a83 us83 ar83 f83_0 f83_1 f83_2 f83_3 f83_4 c87 a87 us87 ar87 z87 f87_0 p87_0 f87_1 p87_1 pu87
attribute [go_sem] c89 b89 a89 us89 ar89 z89 f89_0 f89_1 f89_2 f89_3 f89_4
attribute [go_sem] s168
end Abs.Y.Ty
