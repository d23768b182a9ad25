/- The facts on the types of this seat that the abstract walk asks for, by program. No condition. -/
import Derived.Test.YtoppjihdipidiaaAbsLib
import Derived.Test.YtoppjihdipidiaaAbsRow
import Derived.Test.YtoppjihdipidiaaChecked
set_option linter.all false
namespace Abs.Y.Ty
open Go Go.Proofs Abs
theorem c2 : Try.prog.cellsOf 2 = 1 := by kernel_rfl
theorem b2 : Try.prog.bytesOf 2 = 8 := by kernel_rfl
theorem a2 : aggT Try.prog 2 = false := by kernel_rfl
theorem s2 : elemSl Try.prog 2 = none := by kernel_rfl
theorem k2 : Try.prog.underlying 2 = some (.int .i64) := by kernel_rfl
theorem z2 : zeroD Try.prog 2 = some (.int .i64 0) := by kernel_rfl
theorem c3 : Try.prog.cellsOf 3 = 1 := by kernel_rfl
theorem b3 : Try.prog.bytesOf 3 = 8 := by kernel_rfl
theorem a3 : aggT Try.prog 3 = false := by kernel_rfl
theorem k3 : Try.prog.underlying 3 = some (.int .i64) := by kernel_rfl
theorem z3 : zeroD Try.prog 3 = some (.int .i64 0) := by kernel_rfl
theorem c4 : Try.prog.cellsOf 4 = 1 := by kernel_rfl
theorem a4 : aggT Try.prog 4 = false := by kernel_rfl
theorem bo4 : isBoolT Try.prog 4 = true := by kernel_rfl
theorem a5 : aggT Try.prog 5 = false := by kernel_rfl
theorem c22 : Try.prog.cellsOf 22 = 1 := by kernel_rfl
theorem a22 : aggT Try.prog 22 = false := by kernel_rfl
theorem us22 : (Try.prog.underlying 22).isSome = true := by kernel_rfl
theorem s22 : elemSl Try.prog 22 = some 47 := by kernel_rfl
theorem c24 : Try.prog.cellsOf 24 = 2 := by kernel_rfl
theorem a24 : aggT Try.prog 24 = true := by kernel_rfl
theorem us24 : (Try.prog.underlying 24).isSome = true := by kernel_rfl
theorem ar24 : elemAr Try.prog 24 = none := by kernel_rfl
theorem f24_0 : fieldOf Try.prog 24 0 = some (0, 3) := by kernel_rfl
theorem f24_1 : fieldOf Try.prog 24 1 = some (1, 22) := by kernel_rfl
theorem c25 : Try.prog.cellsOf 25 = 1 := by kernel_rfl
theorem s25 : elemSl Try.prog 25 = some 80 := by kernel_rfl
theorem c30 : Try.prog.cellsOf 30 = 2 := by kernel_rfl
theorem a30 : aggT Try.prog 30 = true := by kernel_rfl
theorem us30 : (Try.prog.underlying 30).isSome = true := by kernel_rfl
theorem ar30 : elemAr Try.prog 30 = none := by kernel_rfl
theorem z30 : zeroD Try.prog 30 = some (.agg [(.int .i64 0), (.slice [])]) := by kernel_rfl
theorem f30_0 : fieldOf Try.prog 30 0 = some (0, 3) := by kernel_rfl
theorem f30_1 : fieldOf Try.prog 30 1 = some (1, 22) := by kernel_rfl
theorem s32 : elemSl Try.prog 32 = some 85 := by kernel_rfl
theorem c47 : Try.prog.cellsOf 47 = 1 := by kernel_rfl
theorem b47 : Try.prog.bytesOf 47 = 24 := by kernel_rfl
theorem a47 : aggT Try.prog 47 = false := by kernel_rfl
theorem us47 : (Try.prog.underlying 47).isSome = true := by kernel_rfl
theorem s47 : elemSl Try.prog 47 = some 3 := by kernel_rfl
theorem z47 : zeroD Try.prog 47 = some (.slice []) := by kernel_rfl
theorem c50 : Try.prog.cellsOf 50 = 1 := by kernel_rfl
theorem a50 : aggT Try.prog 50 = false := by kernel_rfl
theorem us50 : (Try.prog.underlying 50).isSome = true := by kernel_rfl
theorem s50 : elemSl Try.prog 50 = some 124 := by kernel_rfl
theorem c70 : Try.prog.cellsOf 70 = 1 := by kernel_rfl
theorem a70 : aggT Try.prog 70 = false := by kernel_rfl
theorem us70 : (Try.prog.underlying 70).isSome = true := by kernel_rfl
theorem s70 : elemSl Try.prog 70 = some 159 := by kernel_rfl
theorem c80 : Try.prog.cellsOf 80 = 6 := by kernel_rfl
theorem a80 : aggT Try.prog 80 = true := by kernel_rfl
theorem us80 : (Try.prog.underlying 80).isSome = true := by kernel_rfl
theorem ar80 : elemAr Try.prog 80 = none := by kernel_rfl
theorem f80_0 : fieldOf Try.prog 80 0 = some (0, 3) := by kernel_rfl
theorem f80_1 : fieldOf Try.prog 80 1 = some (1, 70) := by kernel_rfl
theorem f80_2 : fieldOf Try.prog 80 2 = some (2, 3) := by kernel_rfl
theorem f80_3 : fieldOf Try.prog 80 3 = some (3, 3) := by kernel_rfl
theorem f80_4 : fieldOf Try.prog 80 4 = some (4, 3) := by kernel_rfl
theorem f80_5 : fieldOf Try.prog 80 5 = some (5, 3) := by kernel_rfl
theorem c85 : Try.prog.cellsOf 85 = 6 := by kernel_rfl
theorem b85 : Try.prog.bytesOf 85 = 64 := by kernel_rfl
theorem a85 : aggT Try.prog 85 = true := by kernel_rfl
theorem us85 : (Try.prog.underlying 85).isSome = true := by kernel_rfl
theorem ar85 : elemAr Try.prog 85 = none := by kernel_rfl
theorem z85 : zeroD Try.prog 85 = some (.agg [(.int .i64 0), (.slice []), (.int .i64 0), (.int .i64 0), (.int .i64 0), (.int .i64 0)]) := by kernel_rfl
theorem f85_0 : fieldOf Try.prog 85 0 = some (0, 3) := by kernel_rfl
theorem f85_1 : fieldOf Try.prog 85 1 = some (1, 50) := by kernel_rfl
theorem f85_2 : fieldOf Try.prog 85 2 = some (2, 3) := by kernel_rfl
theorem f85_3 : fieldOf Try.prog 85 3 = some (3, 3) := by kernel_rfl
theorem f85_4 : fieldOf Try.prog 85 4 = some (4, 3) := by kernel_rfl
theorem f85_5 : fieldOf Try.prog 85 5 = some (5, 3) := by kernel_rfl
theorem c92 : Try.prog.cellsOf 92 = 1 := by kernel_rfl
theorem b92 : Try.prog.bytesOf 92 = 24 := by kernel_rfl
theorem a92 : aggT Try.prog 92 = false := by kernel_rfl
theorem us92 : (Try.prog.underlying 92).isSome = true := by kernel_rfl
theorem s92 : elemSl Try.prog 92 = some 3 := by kernel_rfl
theorem z92 : zeroD Try.prog 92 = some (.slice []) := by kernel_rfl
theorem c95 : Try.prog.cellsOf 95 = 2 := by kernel_rfl
theorem a95 : aggT Try.prog 95 = true := by kernel_rfl
theorem us95 : (Try.prog.underlying 95).isSome = true := by kernel_rfl
theorem ar95 : elemAr Try.prog 95 = none := by kernel_rfl
theorem z95 : zeroD Try.prog 95 = some (.agg [(.int .i64 0), (.int .i64 0)]) := by kernel_rfl
theorem f95_0 : fieldOf Try.prog 95 0 = some (0, 3) := by kernel_rfl
theorem p95_0 : places Try.prog 95 0 = some (0, 1) := by kernel_rfl
theorem f95_1 : fieldOf Try.prog 95 1 = some (1, 3) := by kernel_rfl
theorem p95_1 : places Try.prog 95 1 = some (1, 1) := by kernel_rfl
theorem pu95 : partsU Try.prog 95 = true := by kernel_rfl
theorem c96 : Try.prog.cellsOf 96 = 1 := by kernel_rfl
theorem a96 : aggT Try.prog 96 = false := by kernel_rfl
theorem us96 : (Try.prog.underlying 96).isSome = true := by kernel_rfl
theorem s96 : elemSl Try.prog 96 = some 92 := by kernel_rfl
theorem ar98 : elemAr Try.prog 98 = none := by kernel_rfl
theorem z98 : zeroD Try.prog 98 = some (.agg [(.int .i64 0), (.int .i64 0), (.int .i64 0), (.slice []), (.slice [])]) := by kernel_rfl
theorem f98_0 : fieldOf Try.prog 98 0 = some (0, 95) := by kernel_rfl
theorem p98_0 : places Try.prog 98 0 = some (0, 2) := by kernel_rfl
theorem p98_1 : places Try.prog 98 1 = some (2, 2) := by kernel_rfl
theorem f98_2 : fieldOf Try.prog 98 2 = some (4, 96) := by kernel_rfl
theorem pu98 : partsU Try.prog 98 = true := by kernel_rfl
theorem k110 : Try.prog.underlying 110 = some (.int .u64) := by kernel_rfl
theorem c124 : Try.prog.cellsOf 124 = 2 := by kernel_rfl
theorem b124 : Try.prog.bytesOf 124 = 16 := by kernel_rfl
theorem a124 : aggT Try.prog 124 = true := by kernel_rfl
theorem us124 : (Try.prog.underlying 124).isSome = true := by kernel_rfl
theorem ar124 : elemAr Try.prog 124 = none := by kernel_rfl
theorem z124 : zeroD Try.prog 124 = some (.agg [(.int .i64 0), (.int .i64 0)]) := by kernel_rfl
theorem f124_0 : fieldOf Try.prog 124 0 = some (0, 3) := by kernel_rfl
theorem p124_0 : places Try.prog 124 0 = some (0, 1) := by kernel_rfl
theorem f124_1 : fieldOf Try.prog 124 1 = some (1, 3) := by kernel_rfl
theorem p124_1 : places Try.prog 124 1 = some (1, 1) := by kernel_rfl
theorem es124 : eqShape Try.prog 124 = some [(0, 3), (1, 3)] := by kernel_rfl
theorem pu124 : partsU Try.prog 124 = true := by kernel_rfl
theorem c159 : Try.prog.cellsOf 159 = 2 := by kernel_rfl
theorem a159 : aggT Try.prog 159 = true := by kernel_rfl
theorem us159 : (Try.prog.underlying 159).isSome = true := by kernel_rfl
theorem ar159 : elemAr Try.prog 159 = none := by kernel_rfl
theorem f159_0 : fieldOf Try.prog 159 0 = some (0, 3) := by kernel_rfl
theorem f159_1 : fieldOf Try.prog 159 1 = some (1, 3) := by kernel_rfl
theorem k198 : Try.prog.underlying 198 = some (.int .u64) := by kernel_rfl
attribute [go_sem] c2 b2 a2 s2 k2 z2 c3 b3 a3 k3 z3 c4 a4 bo4 a5
attribute [go_sem] c22 a22 us22 s22 c24 a24 us24
attribute [go_sem] ar24 f24_0 f24_1 c25 s25 c30 a30 us30 ar30 z30 f30_0 f30_1 s32
attribute [go_sem] c47 b47 a47 us47 s47 z47 c50 a50 us50 s50 c70 a70 us70 s70
attribute [go_sem] c80 a80 us80 ar80 f80_0 f80_1 f80_2 f80_3 f80_4 f80_5
attribute [go_sem] c85 b85 a85 us85 ar85 z85 f85_0 f85_1 f85_2 f85_3 f85_4 f85_5
attribute [go_sem] c92 b92 a92 us92 s92 z92 c95 a95 us95 ar95 z95 f95_0 p95_0 f95_1 p95_1 pu95 c96 a96 us96
attribute [go_sem] s96 ar98 z98 f98_0 p98_0 p98_1 f98_2 pu98
attribute [go_sem] k110
attribute [go_sem] c124 b124 a124 us124 ar124 z124 f124_0 p124_0 f124_1 p124_1 es124 pu124
attribute [go_sem] c159 a159 us159 ar159 f159_0 f159_1
attribute [go_sem] k198
end Abs.Y.Ty
