/- The facts on the types of this seat that the abstract walk asks for, by program. No condition. -/
import Derived.Test.YticigmfmodhfdaaAbsLib
import Derived.Test.YticigmfmodhfdaaAbsRow
import Derived.Test.YticigmfmodhfdaaChecked
set_option linter.all false
namespace Abs.Y.Ty
open Go Go.Proofs Abs
theorem c2 : Try.prog.cellsOf 2 = 1 := by kernel_rfl
theorem b2 : Try.prog.bytesOf 2 = 8 := by kernel_rfl
theorem a2 : aggT Try.prog 2 = false := by kernel_rfl
theorem s2 : elemSl Try.prog 2 = none := by kernel_rfl
theorem k2 : Try.prog.underlying 2 = some (.int .i64) := by kernel_rfl
theorem z2 : zeroD Try.prog 2 = some (.int .i64 0) := by kernel_rfl
theorem c3 : Try.prog.cellsOf 3 = 1 := by kernel_rfl
theorem b3 : Try.prog.bytesOf 3 = 8 := by kernel_rfl
theorem a3 : aggT Try.prog 3 = false := by kernel_rfl
theorem k3 : Try.prog.underlying 3 = some (.int .i64) := by kernel_rfl
theorem z3 : zeroD Try.prog 3 = some (.int .i64 0) := by kernel_rfl
theorem c4 : Try.prog.cellsOf 4 = 1 := by kernel_rfl
theorem bo4 : isBoolT Try.prog 4 = true := by kernel_rfl
theorem c5 : Try.prog.cellsOf 5 = 1 := by kernel_rfl
theorem c22 : Try.prog.cellsOf 22 = 1 := by kernel_rfl
theorem a22 : aggT Try.prog 22 = false := by kernel_rfl
theorem us22 : (Try.prog.underlying 22).isSome = true := by kernel_rfl
theorem s22 : elemSl Try.prog 22 = some 57 := by kernel_rfl
theorem c24 : Try.prog.cellsOf 24 = 2 := by kernel_rfl
theorem a24 : aggT Try.prog 24 = true := by kernel_rfl
theorem us24 : (Try.prog.underlying 24).isSome = true := by kernel_rfl
theorem ar24 : elemAr Try.prog 24 = none := by kernel_rfl
theorem f24_0 : fieldOf Try.prog 24 0 = some (0, 3) := by kernel_rfl
theorem f24_1 : fieldOf Try.prog 24 1 = some (1, 22) := by kernel_rfl
theorem c31 : Try.prog.cellsOf 31 = 2 := by kernel_rfl
theorem a31 : aggT Try.prog 31 = true := by kernel_rfl
theorem us31 : (Try.prog.underlying 31).isSome = true := by kernel_rfl
theorem ar31 : elemAr Try.prog 31 = none := by kernel_rfl
theorem z31 : zeroD Try.prog 31 = some (.agg [(.int .i64 0), (.slice [])]) := by kernel_rfl
theorem f31_0 : fieldOf Try.prog 31 0 = some (0, 3) := by kernel_rfl
theorem f31_1 : fieldOf Try.prog 31 1 = some (1, 22) := by kernel_rfl
theorem c57 : Try.prog.cellsOf 57 = 1 := by kernel_rfl
theorem b57 : Try.prog.bytesOf 57 = 24 := by kernel_rfl
theorem a57 : aggT Try.prog 57 = false := by kernel_rfl
theorem us57 : (Try.prog.underlying 57).isSome = true := by kernel_rfl
theorem s57 : elemSl Try.prog 57 = some 3 := by kernel_rfl
theorem z57 : zeroD Try.prog 57 = some (.slice []) := by kernel_rfl
theorem c64 : Try.prog.cellsOf 64 = 1 := by kernel_rfl
theorem s64 : elemSl Try.prog 64 = some 133 := by kernel_rfl
theorem s68 : elemSl Try.prog 68 = some 136 := by kernel_rfl
theorem c133 : Try.prog.cellsOf 133 = 1 := by kernel_rfl
theorem a133 : aggT Try.prog 133 = false := by kernel_rfl
theorem us133 : (Try.prog.underlying 133).isSome = true := by kernel_rfl
theorem s133 : elemSl Try.prog 133 = some 212 := by kernel_rfl
theorem c136 : Try.prog.cellsOf 136 = 1 := by kernel_rfl
theorem b136 : Try.prog.bytesOf 136 = 24 := by kernel_rfl
theorem a136 : aggT Try.prog 136 = false := by kernel_rfl
theorem us136 : (Try.prog.underlying 136).isSome = true := by kernel_rfl
theorem s136 : elemSl Try.prog 136 = some 207 := by kernel_rfl
theorem z136 : zeroD Try.prog 136 = some (.slice []) := by kernel_rfl
theorem c141 : Try.prog.cellsOf 141 = 1 := by kernel_rfl
theorem a141 : aggT Try.prog 141 = false := by kernel_rfl
theorem us141 : (Try.prog.underlying 141).isSome = true := by kernel_rfl
theorem s141 : elemSl Try.prog 141 = some 145 := by kernel_rfl
theorem c145 : Try.prog.cellsOf 145 = 1 := by kernel_rfl
theorem b145 : Try.prog.bytesOf 145 = 24 := by kernel_rfl
theorem a145 : aggT Try.prog 145 = false := by kernel_rfl
theorem us145 : (Try.prog.underlying 145).isSome = true := by kernel_rfl
theorem s145 : elemSl Try.prog 145 = some 3 := by kernel_rfl
theorem z145 : zeroD Try.prog 145 = some (.slice []) := by kernel_rfl
theorem c162 : Try.prog.cellsOf 162 = 2 := by kernel_rfl
theorem a162 : aggT Try.prog 162 = true := by kernel_rfl
theorem us162 : (Try.prog.underlying 162).isSome = true := by kernel_rfl
theorem ar162 : elemAr Try.prog 162 = none := by kernel_rfl
theorem z162 : zeroD Try.prog 162 = some (.agg [(.int .i64 0), (.int .i64 0)]) := by kernel_rfl
theorem f162_0 : fieldOf Try.prog 162 0 = some (0, 3) := by kernel_rfl
theorem p162_0 : places Try.prog 162 0 = some (0, 1) := by kernel_rfl
theorem f162_1 : fieldOf Try.prog 162 1 = some (1, 3) := by kernel_rfl
theorem p162_1 : places Try.prog 162 1 = some (1, 1) := by kernel_rfl
theorem pu162 : partsU Try.prog 162 = true := by kernel_rfl
theorem ar164 : elemAr Try.prog 164 = none := by kernel_rfl
theorem z164 : zeroD Try.prog 164 = some (.agg [(.int .i64 0), (.int .i64 0), (.int .i64 0), (.slice []), (.slice [])]) := by kernel_rfl
theorem f164_0 : fieldOf Try.prog 164 0 = some (0, 162) := by kernel_rfl
theorem p164_0 : places Try.prog 164 0 = some (0, 2) := by kernel_rfl
theorem p164_1 : places Try.prog 164 1 = some (2, 2) := by kernel_rfl
theorem f164_2 : fieldOf Try.prog 164 2 = some (4, 141) := by kernel_rfl
theorem pu164 : partsU Try.prog 164 = true := by kernel_rfl
theorem k183 : Try.prog.underlying 183 = some (.int .u64) := by kernel_rfl
theorem c207 : Try.prog.cellsOf 207 = 2 := by kernel_rfl
theorem b207 : Try.prog.bytesOf 207 = 16 := by kernel_rfl
theorem a207 : aggT Try.prog 207 = true := by kernel_rfl
theorem us207 : (Try.prog.underlying 207).isSome = true := by kernel_rfl
theorem ar207 : elemAr Try.prog 207 = none := by kernel_rfl
theorem z207 : zeroD Try.prog 207 = some (.agg [(.int .i64 0), (.int .i64 0)]) := by kernel_rfl
theorem f207_0 : fieldOf Try.prog 207 0 = some (0, 3) := by kernel_rfl
theorem p207_0 : places Try.prog 207 0 = some (0, 1) := by kernel_rfl
theorem f207_1 : fieldOf Try.prog 207 1 = some (1, 3) := by kernel_rfl
theorem p207_1 : places Try.prog 207 1 = some (1, 1) := by kernel_rfl
theorem pu207 : partsU Try.prog 207 = true := by kernel_rfl
theorem c212 : Try.prog.cellsOf 212 = 2 := by kernel_rfl
theorem a212 : aggT Try.prog 212 = true := by kernel_rfl
theorem us212 : (Try.prog.underlying 212).isSome = true := by kernel_rfl
theorem ar212 : elemAr Try.prog 212 = none := by kernel_rfl
theorem f212_0 : fieldOf Try.prog 212 0 = some (0, 3) := by kernel_rfl
theorem f212_1 : fieldOf Try.prog 212 1 = some (1, 3) := by kernel_rfl
theorem k240 : Try.prog.underlying 240 = some (.int .u64) := by kernel_rfl
attribute [go_sem] c2 b2 a2 s2 k2 z2 c3 b3 a3 k3 z3 c4 bo4 c5
attribute [go_sem] c22 a22 us22 s22 c24 a24 us24
attribute [go_sem] ar24 f24_0 f24_1 c31 a31 us31 ar31 z31 f31_0 f31_1
attribute [go_sem] c57 b57 a57 us57 s57 z57 c64 s64 s68
attribute [go_sem] c133 a133 us133 s133 c136 b136 a136 us136 s136 z136 c141 a141 us141 s141
attribute [go_sem] c145 b145 a145 us145 s145 z145
attribute [go_sem] c162 a162 us162 ar162 z162 f162_0 p162_0 f162_1 p162_1 pu162
attribute [go_sem] ar164 z164 f164_0 p164_0 p164_1 f164_2 pu164 k183
attribute [go_sem] c207 b207 a207 us207 ar207 z207 f207_0 p207_0 f207_1 p207_1 pu207 c212 a212 us212
attribute [go_sem] ar212 f212_0 f212_1 k240
end Abs.Y.Ty
