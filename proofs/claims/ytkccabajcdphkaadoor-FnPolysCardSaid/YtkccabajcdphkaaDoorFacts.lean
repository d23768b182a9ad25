/- The facts on the types of this seat that the abstract walk asks for, by program. No condition. -/
import Derived.Test.YtkccabajcdphkaaDoorAbsRow
import Derived.Test.YtkccabajcdphkaaDoorChecked
set_option linter.all false
namespace Abs.Y.Ty
open Go Go.Proofs Abs
open Nat renaming reduceEqDiff -> Qa, reduceLT -> Qb, reduceAdd -> Qc, reduceMul -> Qd, reduceSub -> Qe, reduceLeDiff -> Qf, reduceSubDiff -> Qg, reduceBEq -> Qh
open Bool renaming not_eq_true' -> Ba, not_eq_false' -> Bb, and_eq_true -> Bc, or_eq_true -> Bh, or_eq_false_iff -> Be
open Int renaming ofNat_lt -> Ia, ofNat_le -> Ib, not_lt -> Ic, not_le -> Ie
open Decidable renaming not_not -> Da
theorem c2 : Tryd.prog.cellsOf 2=1:=by kernel_rfl
theorem b2 : Tryd.prog.bytesOf 2=8:=by kernel_rfl
theorem a2 : aggT Tryd.prog 2=false:=by kernel_rfl
theorem s2 : elemSl Tryd.prog 2=none:=by kernel_rfl
theorem k2 : Tryd.prog.underlying 2=some (.int .i64):=by kernel_rfl
theorem z2 : zeroD Tryd.prog 2=some (.int .i64 0):=by kernel_rfl
theorem c3 : Tryd.prog.cellsOf 3=1:=by kernel_rfl
theorem b3 : Tryd.prog.bytesOf 3=8:=by kernel_rfl
theorem a3 : aggT Tryd.prog 3=false:=by kernel_rfl
theorem s3 : elemSl Tryd.prog 3=none:=by kernel_rfl
theorem ar3 : elemAr Tryd.prog 3=none:=by kernel_rfl
theorem k3 : Tryd.prog.underlying 3=some (.int .i64):=by kernel_rfl
theorem z3 : zeroD Tryd.prog 3=some (.int .i64 0):=by kernel_rfl
theorem c4 : Tryd.prog.cellsOf 4=1:=by kernel_rfl
theorem b4 : Tryd.prog.bytesOf 4=1:=by kernel_rfl
theorem a4 : aggT Tryd.prog 4=false:=by kernel_rfl
theorem bo4 : isBoolT Tryd.prog 4=true:=by kernel_rfl
theorem z4 : zeroD Tryd.prog 4=some (.bool false):=by kernel_rfl
theorem c5 : Tryd.prog.cellsOf 5=1:=by kernel_rfl
theorem a5 : aggT Tryd.prog 5=false:=by kernel_rfl
theorem k5 : Tryd.prog.underlying 5=some (.int .u8):=by kernel_rfl
theorem z5 : zeroD Tryd.prog 5=some (.int .u8 0):=by kernel_rfl
theorem c6 : Tryd.prog.cellsOf 6=1:=by kernel_rfl
theorem c7 : Tryd.prog.cellsOf 7=4:=by kernel_rfl
theorem c8 : Tryd.prog.cellsOf 8=4:=by kernel_rfl
theorem c9 : Tryd.prog.cellsOf 9=1:=by kernel_rfl
theorem b9 : Tryd.prog.bytesOf 9=16:=by kernel_rfl
theorem a9 : aggT Tryd.prog 9=false:=by kernel_rfl
theorem st9 : isStrT Tryd.prog 9=true:=by kernel_rfl
theorem z9 : zeroD Tryd.prog 9=some (.str ByteArray.empty):=by kernel_rfl
theorem c10 : Tryd.prog.cellsOf 10=1:=by kernel_rfl
theorem c22 : Tryd.prog.cellsOf 22=1:=by kernel_rfl
theorem a22 : aggT Tryd.prog 22=false:=by kernel_rfl
theorem us22 : (Tryd.prog.underlying 22).isSome=true:=by kernel_rfl
theorem s22 : elemSl Tryd.prog 22=some 5:=by kernel_rfl
theorem c24 : Tryd.prog.cellsOf 24=1:=by kernel_rfl
theorem a24 : aggT Tryd.prog 24=false:=by kernel_rfl
theorem us24 : (Tryd.prog.underlying 24).isSome=true:=by kernel_rfl
theorem s24 : elemSl Tryd.prog 24=some 41:=by kernel_rfl
theorem z24 : zeroD Tryd.prog 24=some (.slice []):=by kernel_rfl
theorem c41 : Tryd.prog.cellsOf 41=2:=by kernel_rfl
theorem b41 : Tryd.prog.bytesOf 41=16:=by kernel_rfl
theorem a41 : aggT Tryd.prog 41=true:=by kernel_rfl
theorem us41 : (Tryd.prog.underlying 41).isSome=true:=by kernel_rfl
theorem ar41 : elemAr Tryd.prog 41=none:=by kernel_rfl
theorem z41 : zeroD Tryd.prog 41=some (.agg [(.int .i64 0),(.int .i64 0)]):=by kernel_rfl
theorem f41_0 : fieldOf Tryd.prog 41 0=some (0,3):=by kernel_rfl
theorem p41_0 : places Tryd.prog 41 0=some (0,1):=by kernel_rfl
theorem f41_1 : fieldOf Tryd.prog 41 1=some (1,3):=by kernel_rfl
theorem p41_1 : places Tryd.prog 41 1=some (1,1):=by kernel_rfl
theorem es41 : eqShape Tryd.prog 41=some [(0,3),(1,3)]:=by kernel_rfl
theorem pu41 : partsU Tryd.prog 41=true:=by kernel_rfl
theorem s55 : elemSl Tryd.prog 55=some 3:=by kernel_rfl
theorem s64 : elemSl Tryd.prog 64=some 9:=by kernel_rfl
theorem a76 : aggT Tryd.prog 76=true:=by kernel_rfl
theorem z76 : zeroD Tryd.prog 76=some (.agg [(.int .i64 0),(.int .i64 0)]):=by kernel_rfl
theorem c77 : Tryd.prog.cellsOf 77=2:=by kernel_rfl
theorem a77 : aggT Tryd.prog 77=true:=by kernel_rfl
theorem us77 : (Tryd.prog.underlying 77).isSome=true:=by kernel_rfl
theorem ar77 : elemAr Tryd.prog 77=none:=by kernel_rfl
theorem z77 : zeroD Tryd.prog 77=some (.agg [(.int .i64 0),(.int .i64 0)]):=by kernel_rfl
theorem f77_0 : fieldOf Tryd.prog 77 0=some (0,3):=by kernel_rfl
theorem p77_0 : places Tryd.prog 77 0=some (0,1):=by kernel_rfl
theorem f77_1 : fieldOf Tryd.prog 77 1=some (1,3):=by kernel_rfl
theorem p77_1 : places Tryd.prog 77 1=some (1,1):=by kernel_rfl
theorem pu77 : partsU Tryd.prog 77=true:=by kernel_rfl
theorem s78 : elemSl Tryd.prog 78=some 81:=by kernel_rfl
theorem c81 : Tryd.prog.cellsOf 81=1:=by kernel_rfl
theorem b81 : Tryd.prog.bytesOf 81=24:=by kernel_rfl
theorem a81 : aggT Tryd.prog 81=false:=by kernel_rfl
theorem us81 : (Tryd.prog.underlying 81).isSome=true:=by kernel_rfl
theorem s81 : elemSl Tryd.prog 81=some 3:=by kernel_rfl
theorem z81 : zeroD Tryd.prog 81=some (.slice []):=by kernel_rfl
theorem c93 : Tryd.prog.cellsOf 93=1:=by kernel_rfl
theorem a93 : aggT Tryd.prog 93=false:=by kernel_rfl
theorem k93 : Tryd.prog.underlying 93=some (.int .u64):=by kernel_rfl
theorem ar95 : elemAr Tryd.prog 95=none:=by kernel_rfl
theorem z95 : zeroD Tryd.prog 95=some (.agg [(.slice []),(.int .i64 0),(.int .u64 0)]):=by kernel_rfl
theorem f95_0 : fieldOf Tryd.prog 95 0=some (0,22):=by kernel_rfl
theorem p95_0 : places Tryd.prog 95 0=some (0,1):=by kernel_rfl
theorem f95_1 : fieldOf Tryd.prog 95 1=some (1,3):=by kernel_rfl
theorem f95_2 : fieldOf Tryd.prog 95 2=some (2,93):=by kernel_rfl
theorem pu95 : partsU Tryd.prog 95=true:=by kernel_rfl
theorem s147 : elemSl Tryd.prog 147=some 24:=by kernel_rfl
theorem k176 : Tryd.prog.underlying 176=some (.int .u64):=by kernel_rfl
theorem a212 : aggT Tryd.prog 212=true:=by kernel_rfl
theorem z212 : zeroD Tryd.prog 212=some (.agg []):=by kernel_rfl
theorem a213 : aggT Tryd.prog 213=false:=by kernel_rfl
theorem z213 : zeroD Tryd.prog 213=some (.int .u8 0):=by kernel_rfl
attribute [go_sem] c2 b2 a2 s2 k2 z2 c3 b3 a3 s3 ar3 k3 z3 c4 b4 a4 bo4 z4 c5 a5 k5 z5 c6
attribute [go_sem] c7 c8 c9 b9 a9 st9 z9
attribute [go_sem] c10
attribute [go_sem] c22 a22 us22 s22 c24 a24 us24 s24 z24
attribute [go_sem] c41 b41 a41 us41 ar41 z41 f41_0 p41_0 f41_1 p41_1 es41 pu41 s55 s64
attribute [go_sem] a76 z76 c77 a77 us77 ar77 z77 f77_0 p77_0 f77_1 p77_1 pu77 s78 c81 b81 a81 us81 s81 z81
attribute [go_sem] c93 a93 k93 ar95 z95 f95_0 p95_0 f95_1 f95_2
attribute [go_sem] pu95
attribute [go_sem] s147
attribute [go_sem] k176
attribute [go_sem] a212 z212 a213 z213
end Abs.Y.Ty
