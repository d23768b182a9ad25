/- The facts on the types of this seat that the abstract walk asks for, by program. No condition. -/
import Derived.Test.YtdohpocdlkcaoaaAbsRow
import Derived.Test.YtdohpocdlkcaoaaChecked
set_option linter.all false
namespace Abs.Y.Ty
open Go Go.Proofs Abs
open Nat renaming reduceEqDiff -> Qa, reduceLT -> Qb, reduceAdd -> Qc, reduceMul -> Qd, reduceSub -> Qe, reduceLeDiff -> Qf, reduceSubDiff -> Qg, reduceBEq -> Qh
open Bool renaming not_eq_true' -> Ba, not_eq_false' -> Bb, and_eq_true -> Bc, or_eq_true -> Bd, or_eq_false_iff -> Be
open Int renaming ofNat_lt -> Ia, ofNat_le -> Ib, not_lt -> Ic, not_le -> Ie
open Decidable renaming not_not -> Da
theorem c2 : Try.prog.cellsOf 2=1:=by kernel_rfl
theorem b2 : Try.prog.bytesOf 2=8:=by kernel_rfl
theorem a2 : aggT Try.prog 2=false:=by kernel_rfl
theorem s2 : elemSl Try.prog 2=none:=by kernel_rfl
theorem k2 : Try.prog.underlying 2=some (.int .i64):=by kernel_rfl
theorem z2 : zeroD Try.prog 2=some (.int .i64 0):=by kernel_rfl
theorem c3 : Try.prog.cellsOf 3=1:=by kernel_rfl
theorem b3 : Try.prog.bytesOf 3=8:=by kernel_rfl
theorem a3 : aggT Try.prog 3=false:=by kernel_rfl
theorem ar3 : elemAr Try.prog 3=none:=by kernel_rfl
theorem k3 : Try.prog.underlying 3=some (.int .i64):=by kernel_rfl
theorem z3 : zeroD Try.prog 3=some (.int .i64 0):=by kernel_rfl
theorem c4 : Try.prog.cellsOf 4=1:=by kernel_rfl
theorem b4 : Try.prog.bytesOf 4=1:=by kernel_rfl
theorem a4 : aggT Try.prog 4=false:=by kernel_rfl
theorem us4 : (Try.prog.underlying 4).isSome=true:=by kernel_rfl
theorem ar4 : elemAr Try.prog 4=none:=by kernel_rfl
theorem bo4 : isBoolT Try.prog 4=true:=by kernel_rfl
theorem z4 : zeroD Try.prog 4=some (.bool false):=by kernel_rfl
theorem c5 : Try.prog.cellsOf 5=1:=by kernel_rfl
theorem a5 : aggT Try.prog 5=false:=by kernel_rfl
theorem k5 : Try.prog.underlying 5=some (.int .u8):=by kernel_rfl
theorem z5 : zeroD Try.prog 5=some (.int .u8 0):=by kernel_rfl
theorem c6 : Try.prog.cellsOf 6=1:=by kernel_rfl
theorem c7 : Try.prog.cellsOf 7=4:=by kernel_rfl
theorem a9 : aggT Try.prog 9=false:=by kernel_rfl
theorem z9 : zeroD Try.prog 9=some (.str ByteArray.empty):=by kernel_rfl
theorem c22 : Try.prog.cellsOf 22=1:=by kernel_rfl
theorem a22 : aggT Try.prog 22=false:=by kernel_rfl
theorem us22 : (Try.prog.underlying 22).isSome=true:=by kernel_rfl
theorem s22 : elemSl Try.prog 22=some 38:=by kernel_rfl
theorem z22 : zeroD Try.prog 22=some (.slice []):=by kernel_rfl
theorem a24 : aggT Try.prog 24=true:=by kernel_rfl
theorem z24 : zeroD Try.prog 24=some (.agg [(.int .i64 0),(.slice [])]):=by kernel_rfl
theorem c29 : Try.prog.cellsOf 29=2:=by kernel_rfl
theorem a29 : aggT Try.prog 29=true:=by kernel_rfl
theorem us29 : (Try.prog.underlying 29).isSome=true:=by kernel_rfl
theorem ar29 : elemAr Try.prog 29=none:=by kernel_rfl
theorem z29 : zeroD Try.prog 29=some (.agg [(.int .i64 0),(.slice [])]):=by kernel_rfl
theorem f29_0 : fieldOf Try.prog 29 0=some (0,3):=by kernel_rfl
theorem p29_0 : places Try.prog 29 0=some (0,1):=by kernel_rfl
theorem f29_1 : fieldOf Try.prog 29 1=some (1,22):=by kernel_rfl
theorem p29_1 : places Try.prog 29 1=some (1,1):=by kernel_rfl
theorem pu29 : partsU Try.prog 29=true:=by kernel_rfl
theorem c36 : Try.prog.cellsOf 36=1:=by kernel_rfl
theorem a36 : aggT Try.prog 36=false:=by kernel_rfl
theorem us36 : (Try.prog.underlying 36).isSome=true:=by kernel_rfl
theorem s36 : elemSl Try.prog 36=some 5:=by kernel_rfl
theorem c38 : Try.prog.cellsOf 38=1:=by kernel_rfl
theorem b38 : Try.prog.bytesOf 38=24:=by kernel_rfl
theorem a38 : aggT Try.prog 38=false:=by kernel_rfl
theorem us38 : (Try.prog.underlying 38).isSome=true:=by kernel_rfl
theorem s38 : elemSl Try.prog 38=some 3:=by kernel_rfl
theorem ar38 : elemAr Try.prog 38=none:=by kernel_rfl
theorem z38 : zeroD Try.prog 38=some (.slice []):=by kernel_rfl
theorem c102 : Try.prog.cellsOf 102=1:=by kernel_rfl
theorem a102 : aggT Try.prog 102=false:=by kernel_rfl
theorem k102 : Try.prog.underlying 102=some (.int .u64):=by kernel_rfl
theorem ar104 : elemAr Try.prog 104=none:=by kernel_rfl
theorem z104 : zeroD Try.prog 104=some (.agg [(.slice []),(.int .i64 0),(.int .u64 0)]):=by kernel_rfl
theorem f104_0 : fieldOf Try.prog 104 0=some (0,36):=by kernel_rfl
theorem p104_0 : places Try.prog 104 0=some (0,1):=by kernel_rfl
theorem f104_1 : fieldOf Try.prog 104 1=some (1,3):=by kernel_rfl
theorem f104_2 : fieldOf Try.prog 104 2=some (2,102):=by kernel_rfl
theorem pu104 : partsU Try.prog 104=true:=by kernel_rfl
theorem ar137 : elemAr Try.prog 137=none:=by kernel_rfl
theorem z137 : zeroD Try.prog 137=some (.agg [(.int .i64 0),(.slice [])]):=by kernel_rfl
theorem f137_0 : fieldOf Try.prog 137 0=some (0,3):=by kernel_rfl
theorem p137_0 : places Try.prog 137 0=some (0,1):=by kernel_rfl
theorem f137_1 : fieldOf Try.prog 137 1=some (1,22):=by kernel_rfl
theorem pu137 : partsU Try.prog 137=true:=by kernel_rfl
attribute [go_sem] c2 b2 a2 s2 k2 z2 c3 b3 a3 ar3 k3 z3 c4 b4 a4 us4 ar4 bo4 z4 c5 a5 k5 z5 c6
attribute [go_sem] c7 a9 z9
attribute [go_sem] c22 a22 us22 s22 z22 a24
attribute [go_sem] z24 c29 a29 us29 ar29 z29 f29_0 p29_0 f29_1 p29_1 pu29 c36 a36 us36 s36 c38 b38 a38 us38 s38 ar38
attribute [go_sem] z38
attribute [go_sem] c102 a102 k102
attribute [go_sem] ar104 z104 f104_0 p104_0 f104_1 f104_2 pu104
attribute [go_sem] ar137 z137 f137_0 p137_0 f137_1 pu137
end Abs.Y.Ty
