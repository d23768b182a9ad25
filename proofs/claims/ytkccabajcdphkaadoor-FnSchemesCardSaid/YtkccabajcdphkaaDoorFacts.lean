/- The facts on the types of this seat that the abstract walk asks for, by program. No condition. -/
import Derived.Test.YtkccabajcdphkaaDoorAbsRow
import Derived.Test.YtkccabajcdphkaaDoorChecked
set_option linter.all false
namespace Abs.Y.Ty
open Go Go.Proofs Abs
open Nat renaming reduceEqDiff -> Qa, reduceLT -> Qb, reduceAdd -> Qc, reduceMul -> Qd, reduceSub -> Qe, reduceLeDiff -> Qf, reduceSubDiff -> Qg, reduceBEq -> Qh
open Bool renaming not_eq_true' -> Ba, not_eq_false' -> Bb, and_eq_true -> Bc, or_eq_true -> Bh, or_eq_false_iff -> Be
open Int renaming ofNat_lt -> Ia, ofNat_le -> Ib, not_lt -> Ic, not_le -> Ie
open Decidable renaming not_not -> Da
theorem c2 : Tryd.prog.cellsOf 2=1:=by kernel_rfl
theorem b2 : Tryd.prog.bytesOf 2=8:=by kernel_rfl
theorem a2 : aggT Tryd.prog 2=false:=by kernel_rfl
theorem s2 : elemSl Tryd.prog 2=none:=by kernel_rfl
theorem k2 : Tryd.prog.underlying 2=some (.int .i64):=by kernel_rfl
theorem z2 : zeroD Tryd.prog 2=some (.int .i64 0):=by kernel_rfl
theorem c3 : Tryd.prog.cellsOf 3=1:=by kernel_rfl
theorem b3 : Tryd.prog.bytesOf 3=8:=by kernel_rfl
theorem a3 : aggT Tryd.prog 3=false:=by kernel_rfl
theorem k3 : Tryd.prog.underlying 3=some (.int .i64):=by kernel_rfl
theorem z3 : zeroD Tryd.prog 3=some (.int .i64 0):=by kernel_rfl
theorem c4 : Tryd.prog.cellsOf 4=1:=by kernel_rfl
theorem b4 : Tryd.prog.bytesOf 4=1:=by kernel_rfl
theorem a4 : aggT Tryd.prog 4=false:=by kernel_rfl
theorem bo4 : isBoolT Tryd.prog 4=true:=by kernel_rfl
theorem z4 : zeroD Tryd.prog 4=some (.bool false):=by kernel_rfl
theorem c5 : Tryd.prog.cellsOf 5=1:=by kernel_rfl
theorem a5 : aggT Tryd.prog 5=false:=by kernel_rfl
theorem k5 : Tryd.prog.underlying 5=some (.int .u8):=by kernel_rfl
theorem z5 : zeroD Tryd.prog 5=some (.int .u8 0):=by kernel_rfl
theorem c6 : Tryd.prog.cellsOf 6=1:=by kernel_rfl
theorem c7 : Tryd.prog.cellsOf 7=4:=by kernel_rfl
theorem c9 : Tryd.prog.cellsOf 9=1:=by kernel_rfl
theorem b9 : Tryd.prog.bytesOf 9=16:=by kernel_rfl
theorem a9 : aggT Tryd.prog 9=false:=by kernel_rfl
theorem us9 : (Tryd.prog.underlying 9).isSome=true:=by kernel_rfl
theorem st9 : isStrT Tryd.prog 9=true:=by kernel_rfl
theorem z9 : zeroD Tryd.prog 9=some (.str ByteArray.empty):=by kernel_rfl
theorem c22 : Tryd.prog.cellsOf 22=1:=by kernel_rfl
theorem a22 : aggT Tryd.prog 22=false:=by kernel_rfl
theorem us22 : (Tryd.prog.underlying 22).isSome=true:=by kernel_rfl
theorem s22 : elemSl Tryd.prog 22=some 5:=by kernel_rfl
theorem s55 : elemSl Tryd.prog 55=some 3:=by kernel_rfl
theorem s64 : elemSl Tryd.prog 64=some 9:=by kernel_rfl
theorem c93 : Tryd.prog.cellsOf 93=1:=by kernel_rfl
theorem a93 : aggT Tryd.prog 93=false:=by kernel_rfl
theorem k93 : Tryd.prog.underlying 93=some (.int .u64):=by kernel_rfl
theorem ar95 : elemAr Tryd.prog 95=none:=by kernel_rfl
theorem z95 : zeroD Tryd.prog 95=some (.agg [(.slice []),(.int .i64 0),(.int .u64 0)]):=by kernel_rfl
theorem f95_0 : fieldOf Tryd.prog 95 0=some (0,22):=by kernel_rfl
theorem p95_0 : places Tryd.prog 95 0=some (0,1):=by kernel_rfl
theorem f95_1 : fieldOf Tryd.prog 95 1=some (1,3):=by kernel_rfl
theorem f95_2 : fieldOf Tryd.prog 95 2=some (2,93):=by kernel_rfl
theorem pu95 : partsU Tryd.prog 95=true:=by kernel_rfl
theorem c119 : Tryd.prog.cellsOf 119=1:=by kernel_rfl
theorem a119 : aggT Tryd.prog 119=false:=by kernel_rfl
theorem us119 : (Tryd.prog.underlying 119).isSome=true:=by kernel_rfl
theorem ar119 : elemAr Tryd.prog 119=none:=by kernel_rfl
theorem z119 : zeroD Tryd.prog 119=some .nilptr:=by kernel_rfl
theorem s130 : elemSl Tryd.prog 130=none:=by kernel_rfl
theorem ar130 : elemAr Tryd.prog 130=some (10,9):=by kernel_rfl
theorem ar140 : elemAr Tryd.prog 140=none:=by kernel_rfl
theorem z140 : zeroD Tryd.prog 140=some (.agg [(.int .u8 0),.nilptr,.nilptr,(.str ByteArray.empty)]):=by kernel_rfl
theorem f140_0 : fieldOf Tryd.prog 140 0=some (0,5):=by kernel_rfl
theorem p140_0 : places Tryd.prog 140 0=some (0,1):=by kernel_rfl
theorem f140_1 : fieldOf Tryd.prog 140 1=some (1,119):=by kernel_rfl
theorem p140_1 : places Tryd.prog 140 1=some (1,1):=by kernel_rfl
theorem f140_2 : fieldOf Tryd.prog 140 2=some (2,119):=by kernel_rfl
theorem p140_2 : places Tryd.prog 140 2=some (2,1):=by kernel_rfl
theorem f140_3 : fieldOf Tryd.prog 140 3=some (3,9):=by kernel_rfl
theorem p140_3 : places Tryd.prog 140 3=some (3,1):=by kernel_rfl
theorem pu140 : partsU Tryd.prog 140=true:=by kernel_rfl
theorem c167 : Tryd.prog.cellsOf 167=3:=by kernel_rfl
theorem a167 : aggT Tryd.prog 167=true:=by kernel_rfl
theorem us167 : (Tryd.prog.underlying 167).isSome=true:=by kernel_rfl
theorem s167 : elemSl Tryd.prog 167=none:=by kernel_rfl
theorem ar167 : elemAr Tryd.prog 167=some (3,119):=by kernel_rfl
theorem z167 : zeroD Tryd.prog 167=some (.agg [.nilptr,.nilptr,.nilptr]):=by kernel_rfl
theorem p167_0 : places Tryd.prog 167 0=some (0,1):=by kernel_rfl
theorem p167_1 : places Tryd.prog 167 1=some (1,1):=by kernel_rfl
theorem p167_2 : places Tryd.prog 167 2=some (2,1):=by kernel_rfl
theorem pu167 : partsU Tryd.prog 167=true:=by kernel_rfl
attribute [go_sem] c2 b2 a2 s2 k2 z2 c3 b3 a3 k3 z3 c4 b4 a4 bo4 z4 c5 a5 k5 z5 c6
attribute [go_sem] c7 c9 b9 a9 us9 st9 z9
attribute [go_sem] c22 a22 us22 s22
attribute [go_sem] s55 s64
attribute [go_sem] c93 a93 k93 ar95 z95 f95_0 p95_0 f95_1 f95_2
attribute [go_sem] pu95 c119 a119 us119 ar119 z119 s130 ar130
attribute [go_sem] ar140 z140 f140_0 p140_0 f140_1 p140_1 f140_2 p140_2 f140_3 p140_3 pu140
attribute [go_sem] c167
attribute [go_sem] a167 us167 s167 ar167 z167 p167_0 p167_1 p167_2 pu167
end Abs.Y.Ty
