/- The facts on the types of this seat that the abstract walk asks for, by program. No condition. -/
import Derived.Test.YtdohpocdlkcaoaaAbsRow
import Derived.Test.YtdohpocdlkcaoaaChecked
set_option linter.all false
namespace Abs.Y.Ty
open Go Go.Proofs Abs
open Nat renaming reduceEqDiff -> Qa, reduceLT -> Qb, reduceAdd -> Qc, reduceMul -> Qd, reduceSub -> Qe, reduceLeDiff -> Qf, reduceSubDiff -> Qg, reduceBEq -> Qh
open Bool renaming not_eq_true' -> Ba, not_eq_false' -> Bb, and_eq_true -> Bc, or_eq_true -> Bd, or_eq_false_iff -> Be
open Int renaming ofNat_lt -> Ia, ofNat_le -> Ib, not_lt -> Ic, not_le -> Ie
open Decidable renaming not_not -> Da
theorem c2 : Try.prog.cellsOf 2=1:=by kernel_rfl
theorem b2 : Try.prog.bytesOf 2=8:=by kernel_rfl
theorem a2 : aggT Try.prog 2=false:=by kernel_rfl
theorem s2 : elemSl Try.prog 2=none:=by kernel_rfl
theorem k2 : Try.prog.underlying 2=some (.int .i64):=by kernel_rfl
theorem z2 : zeroD Try.prog 2=some (.int .i64 0):=by kernel_rfl
theorem c3 : Try.prog.cellsOf 3=1:=by kernel_rfl
theorem b3 : Try.prog.bytesOf 3=8:=by kernel_rfl
theorem a3 : aggT Try.prog 3=false:=by kernel_rfl
theorem ar3 : elemAr Try.prog 3=none:=by kernel_rfl
theorem k3 : Try.prog.underlying 3=some (.int .i64):=by kernel_rfl
theorem z3 : zeroD Try.prog 3=some (.int .i64 0):=by kernel_rfl
theorem c4 : Try.prog.cellsOf 4=1:=by kernel_rfl
theorem a4 : aggT Try.prog 4=false:=by kernel_rfl
theorem bo4 : isBoolT Try.prog 4=true:=by kernel_rfl
theorem z4 : zeroD Try.prog 4=some (.bool false):=by kernel_rfl
theorem c5 : Try.prog.cellsOf 5=1:=by kernel_rfl
theorem a5 : aggT Try.prog 5=false:=by kernel_rfl
theorem z5 : zeroD Try.prog 5=some (.int .u8 0):=by kernel_rfl
theorem a6 : aggT Try.prog 6=false:=by kernel_rfl
theorem a9 : aggT Try.prog 9=false:=by kernel_rfl
theorem z9 : zeroD Try.prog 9=some (.str ByteArray.empty):=by kernel_rfl
theorem c22 : Try.prog.cellsOf 22=1:=by kernel_rfl
theorem b22 : Try.prog.bytesOf 22=24:=by kernel_rfl
theorem a22 : aggT Try.prog 22=false:=by kernel_rfl
theorem us22 : (Try.prog.underlying 22).isSome=true:=by kernel_rfl
theorem s22 : elemSl Try.prog 22=some 38:=by kernel_rfl
theorem z22 : zeroD Try.prog 22=some (.slice []):=by kernel_rfl
theorem c24 : Try.prog.cellsOf 24=2:=by kernel_rfl
theorem a24 : aggT Try.prog 24=true:=by kernel_rfl
theorem us24 : (Try.prog.underlying 24).isSome=true:=by kernel_rfl
theorem ar24 : elemAr Try.prog 24=none:=by kernel_rfl
theorem z24 : zeroD Try.prog 24=some (.agg [(.int .i64 0),(.slice [])]):=by kernel_rfl
theorem f24_0 : fieldOf Try.prog 24 0=some (0,3):=by kernel_rfl
theorem f24_1 : fieldOf Try.prog 24 1=some (1,22):=by kernel_rfl
theorem s26 : elemSl Try.prog 26=some 22:=by kernel_rfl
theorem c29 : Try.prog.cellsOf 29=2:=by kernel_rfl
theorem a29 : aggT Try.prog 29=true:=by kernel_rfl
theorem us29 : (Try.prog.underlying 29).isSome=true:=by kernel_rfl
theorem ar29 : elemAr Try.prog 29=none:=by kernel_rfl
theorem z29 : zeroD Try.prog 29=some (.agg [(.int .i64 0),(.slice [])]):=by kernel_rfl
theorem f29_0 : fieldOf Try.prog 29 0=some (0,3):=by kernel_rfl
theorem f29_1 : fieldOf Try.prog 29 1=some (1,22):=by kernel_rfl
theorem c38 : Try.prog.cellsOf 38=1:=by kernel_rfl
theorem b38 : Try.prog.bytesOf 38=24:=by kernel_rfl
theorem a38 : aggT Try.prog 38=false:=by kernel_rfl
theorem us38 : (Try.prog.underlying 38).isSome=true:=by kernel_rfl
theorem s38 : elemSl Try.prog 38=some 3:=by kernel_rfl
theorem z38 : zeroD Try.prog 38=some (.slice []):=by kernel_rfl
theorem c88 : Try.prog.cellsOf 88=6:=by kernel_rfl
theorem a88 : aggT Try.prog 88=true:=by kernel_rfl
theorem us88 : (Try.prog.underlying 88).isSome=true:=by kernel_rfl
theorem ar88 : elemAr Try.prog 88=none:=by kernel_rfl
theorem z88 : zeroD Try.prog 88=some (.agg [(.slice []),(.slice []),(.slice []),(.slice []),(.slice []),(.slice [])]):=by kernel_rfl
theorem f88_0 : fieldOf Try.prog 88 0=some (0,22):=by kernel_rfl
theorem f88_1 : fieldOf Try.prog 88 1=some (1,38):=by kernel_rfl
theorem f88_2 : fieldOf Try.prog 88 2=some (2,38):=by kernel_rfl
theorem f88_3 : fieldOf Try.prog 88 3=some (3,38):=by kernel_rfl
theorem f88_4 : fieldOf Try.prog 88 4=some (4,38):=by kernel_rfl
theorem f88_5 : fieldOf Try.prog 88 5=some (5,22):=by kernel_rfl
theorem pu88 : partsU Try.prog 88=true:=by kernel_rfl
theorem c93 : Try.prog.cellsOf 93=1:=by kernel_rfl
theorem a93 : aggT Try.prog 93=false:=by kernel_rfl
theorem us93 : (Try.prog.underlying 93).isSome=true:=by kernel_rfl
theorem ar93 : elemAr Try.prog 93=none:=by kernel_rfl
theorem c95 : Try.prog.cellsOf 95=1:=by kernel_rfl
theorem a95 : aggT Try.prog 95=false:=by kernel_rfl
theorem us95 : (Try.prog.underlying 95).isSome=true:=by kernel_rfl
theorem s95 : elemSl Try.prog 95=some 154:=by kernel_rfl
theorem c96 : Try.prog.cellsOf 96=1:=by kernel_rfl
theorem a96 : aggT Try.prog 96=false:=by kernel_rfl
theorem us96 : (Try.prog.underlying 96).isSome=true:=by kernel_rfl
theorem mt96 : mapT Try.prog 96=some (.u16,.i64):=by kernel_rfl
theorem ar98 : elemAr Try.prog 98=none:=by kernel_rfl
theorem z98 : zeroD Try.prog 98=some (.agg [(.slice []),.nilmap,(.int .i64 0)]):=by kernel_rfl
theorem f98_0 : fieldOf Try.prog 98 0=some (0,95):=by kernel_rfl
theorem f98_1 : fieldOf Try.prog 98 1=some (1,96):=by kernel_rfl
theorem p98_1 : places Try.prog 98 1=some (1,1):=by kernel_rfl
theorem f98_2 : fieldOf Try.prog 98 2=some (2,3):=by kernel_rfl
theorem pu98 : partsU Try.prog 98=true:=by kernel_rfl
theorem c154 : Try.prog.cellsOf 154=1:=by kernel_rfl
theorem b154 : Try.prog.bytesOf 154=2:=by kernel_rfl
theorem a154 : aggT Try.prog 154=false:=by kernel_rfl
theorem k154 : Try.prog.underlying 154=some (.int .u16):=by kernel_rfl
theorem z154 : zeroD Try.prog 154=some (.int .u16 0):=by kernel_rfl
theorem k158 : Try.prog.underlying 158=some (.int .u64):=by kernel_rfl
attribute [go_sem] c2 b2 a2 s2 k2 z2 c3 b3 a3 ar3 k3 z3 c4 a4 bo4 z4 c5 a5 z5 a6
attribute [go_sem] a9 z9
attribute [go_sem] c22 b22 a22 us22 s22 z22 c24 a24 us24
attribute [go_sem] ar24 z24 f24_0 f24_1 s26 c29 a29 us29 ar29 z29 f29_0 f29_1 c38 b38 a38 us38 s38
attribute [go_sem] z38
attribute [go_sem] c88 a88 us88 ar88 z88 f88_0 f88_1 f88_2 f88_3 f88_4 f88_5 pu88 c93 a93 us93
attribute [go_sem] ar93 c95 a95 us95 s95 c96 a96 us96 mt96 ar98 z98 f98_0
attribute [go_sem] f98_1 p98_1 f98_2 pu98
attribute [go_sem] c154 b154 a154 k154 z154 k158
end Abs.Y.Ty
