/- The facts on the types of this seat that the abstract walk asks for, by program. No condition. -/
import Derived.Test.YtckigpgkmdhfoaaAbsRow
import Derived.Test.YtckigpgkmdhfoaaChecked
set_option linter.all false
namespace Abs.Y.Ty
open Go Go.Proofs Abs
open Nat renaming reduceEqDiff -> Qa, reduceLT -> Qb, reduceAdd -> Qc, reduceMul -> Qd, reduceSub -> Qe, reduceLeDiff -> Qf, reduceSubDiff -> Qg, reduceBEq -> Qh
open Bool renaming not_eq_true' -> Ba, not_eq_false' -> Bb, and_eq_true -> Bc, or_eq_true -> Bh, or_eq_false_iff -> Be
open Int renaming ofNat_lt -> Ia, ofNat_le -> Ib, not_lt -> Ic, not_le -> Ie
open Decidable renaming not_not -> Da
theorem c2 : Try.prog.cellsOf 2=1:=by kernel_rfl
theorem b2 : Try.prog.bytesOf 2=8:=by kernel_rfl
theorem a2 : aggT Try.prog 2=false:=by kernel_rfl
theorem s2 : elemSl Try.prog 2=none:=by kernel_rfl
theorem k2 : Try.prog.underlying 2=some (.int .i64):=by kernel_rfl
theorem z2 : zeroD Try.prog 2=some (.int .i64 0):=by kernel_rfl
theorem c3 : Try.prog.cellsOf 3=1:=by kernel_rfl
theorem b3 : Try.prog.bytesOf 3=8:=by kernel_rfl
theorem a3 : aggT Try.prog 3=false:=by kernel_rfl
theorem s3 : elemSl Try.prog 3=none:=by kernel_rfl
theorem ar3 : elemAr Try.prog 3=none:=by kernel_rfl
theorem k3 : Try.prog.underlying 3=some (.int .i64):=by kernel_rfl
theorem z3 : zeroD Try.prog 3=some (.int .i64 0):=by kernel_rfl
theorem c4 : Try.prog.cellsOf 4=1:=by kernel_rfl
theorem b4 : Try.prog.bytesOf 4=1:=by kernel_rfl
theorem a4 : aggT Try.prog 4=false:=by kernel_rfl
theorem us4 : (Try.prog.underlying 4).isSome=true:=by kernel_rfl
theorem ar4 : elemAr Try.prog 4=none:=by kernel_rfl
theorem bo4 : isBoolT Try.prog 4=true:=by kernel_rfl
theorem z4 : zeroD Try.prog 4=some (.bool false):=by kernel_rfl
theorem c5 : Try.prog.cellsOf 5=1:=by kernel_rfl
theorem a5 : aggT Try.prog 5=false:=by kernel_rfl
theorem k5 : Try.prog.underlying 5=some (.int .u8):=by kernel_rfl
theorem c6 : Try.prog.cellsOf 6=1:=by kernel_rfl
theorem c7 : Try.prog.cellsOf 7=4:=by kernel_rfl
theorem c8 : Try.prog.cellsOf 8=4:=by kernel_rfl
theorem c9 : Try.prog.cellsOf 9=1:=by kernel_rfl
theorem b9 : Try.prog.bytesOf 9=16:=by kernel_rfl
theorem a9 : aggT Try.prog 9=false:=by kernel_rfl
theorem us9 : (Try.prog.underlying 9).isSome=true:=by kernel_rfl
theorem st9 : isStrT Try.prog 9=true:=by kernel_rfl
theorem z9 : zeroD Try.prog 9=some (.str ByteArray.empty):=by kernel_rfl
theorem c10 : Try.prog.cellsOf 10=1:=by kernel_rfl
theorem c22 : Try.prog.cellsOf 22=1:=by kernel_rfl
theorem a22 : aggT Try.prog 22=false:=by kernel_rfl
theorem us22 : (Try.prog.underlying 22).isSome=true:=by kernel_rfl
theorem s22 : elemSl Try.prog 22=some 5:=by kernel_rfl
theorem c24 : Try.prog.cellsOf 24=1:=by kernel_rfl
theorem a24 : aggT Try.prog 24=false:=by kernel_rfl
theorem us24 : (Try.prog.underlying 24).isSome=true:=by kernel_rfl
theorem s24 : elemSl Try.prog 24=some 27:=by kernel_rfl
theorem c26 : Try.prog.cellsOf 26=2:=by kernel_rfl
theorem a26 : aggT Try.prog 26=true:=by kernel_rfl
theorem us26 : (Try.prog.underlying 26).isSome=true:=by kernel_rfl
theorem ar26 : elemAr Try.prog 26=none:=by kernel_rfl
theorem z26 : zeroD Try.prog 26=some (.agg [(.int .i64 0),(.slice [])]):=by kernel_rfl
theorem f26_0 : fieldOf Try.prog 26 0=some (0,3):=by kernel_rfl
theorem p26_0 : places Try.prog 26 0=some (0,1):=by kernel_rfl
theorem f26_1 : fieldOf Try.prog 26 1=some (1,24):=by kernel_rfl
theorem p26_1 : places Try.prog 26 1=some (1,1):=by kernel_rfl
theorem pu26 : partsU Try.prog 26=true:=by kernel_rfl
theorem c27 : Try.prog.cellsOf 27=1:=by kernel_rfl
theorem b27 : Try.prog.bytesOf 27=24:=by kernel_rfl
theorem a27 : aggT Try.prog 27=false:=by kernel_rfl
theorem us27 : (Try.prog.underlying 27).isSome=true:=by kernel_rfl
theorem s27 : elemSl Try.prog 27=some 3:=by kernel_rfl
theorem z27 : zeroD Try.prog 27=some (.slice []):=by kernel_rfl
theorem c43 : Try.prog.cellsOf 43=1:=by kernel_rfl
theorem a43 : aggT Try.prog 43=false:=by kernel_rfl
theorem us43 : (Try.prog.underlying 43).isSome=true:=by kernel_rfl
theorem s43 : elemSl Try.prog 43=some 93:=by kernel_rfl
theorem z43 : zeroD Try.prog 43=some (.slice []):=by kernel_rfl
theorem c77 : Try.prog.cellsOf 77=1:=by kernel_rfl
theorem a77 : aggT Try.prog 77=false:=by kernel_rfl
theorem k77 : Try.prog.underlying 77=some (.int .u64):=by kernel_rfl
theorem ar79 : elemAr Try.prog 79=none:=by kernel_rfl
theorem z79 : zeroD Try.prog 79=some (.agg [(.slice []),(.int .i64 0),(.int .u64 0)]):=by kernel_rfl
theorem f79_0 : fieldOf Try.prog 79 0=some (0,22):=by kernel_rfl
theorem p79_0 : places Try.prog 79 0=some (0,1):=by kernel_rfl
theorem f79_1 : fieldOf Try.prog 79 1=some (1,3):=by kernel_rfl
theorem f79_2 : fieldOf Try.prog 79 2=some (2,77):=by kernel_rfl
theorem pu79 : partsU Try.prog 79=true:=by kernel_rfl
theorem c84 : Try.prog.cellsOf 84=2:=by kernel_rfl
theorem a84 : aggT Try.prog 84=true:=by kernel_rfl
theorem us84 : (Try.prog.underlying 84).isSome=true:=by kernel_rfl
theorem ar84 : elemAr Try.prog 84=none:=by kernel_rfl
theorem z84 : zeroD Try.prog 84=some (.agg [(.int .i64 0),(.int .i64 0)]):=by kernel_rfl
theorem f84_0 : fieldOf Try.prog 84 0=some (0,3):=by kernel_rfl
theorem p84_0 : places Try.prog 84 0=some (0,1):=by kernel_rfl
theorem f84_1 : fieldOf Try.prog 84 1=some (1,3):=by kernel_rfl
theorem p84_1 : places Try.prog 84 1=some (1,1):=by kernel_rfl
theorem pu84 : partsU Try.prog 84=true:=by kernel_rfl
theorem c87 : Try.prog.cellsOf 87=1:=by kernel_rfl
theorem b87 : Try.prog.bytesOf 87=24:=by kernel_rfl
theorem a87 : aggT Try.prog 87=false:=by kernel_rfl
theorem us87 : (Try.prog.underlying 87).isSome=true:=by kernel_rfl
theorem s87 : elemSl Try.prog 87=some 3:=by kernel_rfl
theorem z87 : zeroD Try.prog 87=some (.slice []):=by kernel_rfl
theorem c93 : Try.prog.cellsOf 93=2:=by kernel_rfl
theorem b93 : Try.prog.bytesOf 93=16:=by kernel_rfl
theorem a93 : aggT Try.prog 93=true:=by kernel_rfl
theorem us93 : (Try.prog.underlying 93).isSome=true:=by kernel_rfl
theorem ar93 : elemAr Try.prog 93=none:=by kernel_rfl
theorem z93 : zeroD Try.prog 93=some (.agg [(.int .i64 0),(.int .i64 0)]):=by kernel_rfl
theorem f93_0 : fieldOf Try.prog 93 0=some (0,3):=by kernel_rfl
theorem p93_0 : places Try.prog 93 0=some (0,1):=by kernel_rfl
theorem f93_1 : fieldOf Try.prog 93 1=some (1,3):=by kernel_rfl
theorem p93_1 : places Try.prog 93 1=some (1,1):=by kernel_rfl
theorem es93 : eqShape Try.prog 93=some [(0,3),(1,3)]:=by kernel_rfl
theorem pu93 : partsU Try.prog 93=true:=by kernel_rfl
theorem c94 : Try.prog.cellsOf 94=1:=by kernel_rfl
theorem a94 : aggT Try.prog 94=false:=by kernel_rfl
theorem us94 : (Try.prog.underlying 94).isSome=true:=by kernel_rfl
theorem s94 : elemSl Try.prog 94=some 87:=by kernel_rfl
theorem ar94 : elemAr Try.prog 94=none:=by kernel_rfl
theorem z94 : zeroD Try.prog 94=some (.slice []):=by kernel_rfl
theorem s133 : elemSl Try.prog 133=some 43:=by kernel_rfl
theorem k152 : Try.prog.underlying 152=some (.int .u64):=by kernel_rfl
theorem s155 : elemSl Try.prog 155=some 9:=by kernel_rfl
attribute [go_sem] c2 b2 a2 s2 k2 z2 c3 b3 a3 s3 ar3 k3 z3 c4 b4 a4 us4 ar4 bo4 z4 c5 a5 k5 c6
attribute [go_sem] c7 c8 c9 b9 a9 us9 st9 z9
attribute [go_sem] c10
attribute [go_sem] c22 a22 us22 s22 c24 a24 us24 s24
attribute [go_sem] c26 a26 us26 ar26 z26 f26_0 p26_0 f26_1 p26_1 pu26 c27 b27 a27 us27 s27 z27 c43 a43 us43 s43 z43
attribute [go_sem] c77 a77 k77
attribute [go_sem] ar79 z79 f79_0 p79_0 f79_1 f79_2 pu79
attribute [go_sem] c84 a84 us84 ar84 z84 f84_0 p84_0 f84_1 p84_1 pu84 c87 b87 a87 us87 s87 z87 c93 b93 a93 us93 ar93 z93
attribute [go_sem] f93_0 p93_0 f93_1 p93_1 es93 pu93 c94 a94 us94 s94 ar94 z94
attribute [go_sem] s133 k152 s155
end Abs.Y.Ty
