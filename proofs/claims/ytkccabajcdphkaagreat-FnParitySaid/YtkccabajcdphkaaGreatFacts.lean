/- The facts on the types of this seat that the abstract walk asks for, by program. No condition. -/
import Derived.Test.YtkccabajcdphkaaGreatAbsBox
import Derived.Test.YtkccabajcdphkaaGreatAbsRow
import Derived.Test.YtkccabajcdphkaaGreatChecked
set_option linter.all false
namespace Abs.Y.Ty
open Go Go.Proofs Abs
open Nat renaming reduceEqDiff -> Qa, reduceLT -> Qb, reduceAdd -> Qc, reduceMul -> Qd, reduceSub -> Qe, reduceLeDiff -> Qf, reduceSubDiff -> Qg, reduceBEq -> Qh
open Bool renaming not_eq_true' -> Ba, not_eq_false' -> Bb, and_eq_true -> Bc, or_eq_true -> Bh, or_eq_false_iff -> Be
open Int renaming ofNat_lt -> Ia, ofNat_le -> Ib, not_lt -> Ic, not_le -> Ie
open Decidable renaming not_not -> Da
theorem c2 : Tryz.prog.cellsOf 2=1:=by kernel_rfl
theorem b2 : Tryz.prog.bytesOf 2=8:=by kernel_rfl
theorem a2 : aggT Tryz.prog 2=false:=by kernel_rfl
theorem s2 : xd1 Tryz.prog 2=none:=by kernel_rfl
theorem k2 : Tryz.prog.underlying 2=some (.int .i64):=by kernel_rfl
theorem z2 : xe8 Tryz.prog 2=some (.int .i64 0):=by kernel_rfl
theorem c3 : Tryz.prog.cellsOf 3=1:=by kernel_rfl
theorem b3 : Tryz.prog.bytesOf 3=8:=by kernel_rfl
theorem a3 : aggT Tryz.prog 3=false:=by kernel_rfl
theorem s3 : xd1 Tryz.prog 3=none:=by kernel_rfl
theorem ar3 : xn1 Tryz.prog 3=none:=by kernel_rfl
theorem k3 : Tryz.prog.underlying 3=some (.int .i64):=by kernel_rfl
theorem z3 : xe8 Tryz.prog 3=some (.int .i64 0):=by kernel_rfl
theorem c4 : Tryz.prog.cellsOf 4=1:=by kernel_rfl
theorem b4 : Tryz.prog.bytesOf 4=1:=by kernel_rfl
theorem a4 : aggT Tryz.prog 4=false:=by kernel_rfl
theorem us4 : (Tryz.prog.underlying 4).isSome=true:=by kernel_rfl
theorem s4 : xd1 Tryz.prog 4=none:=by kernel_rfl
theorem ar4 : xn1 Tryz.prog 4=none:=by kernel_rfl
theorem bo4 : yp8 Tryz.prog 4=true:=by kernel_rfl
theorem z4 : xe8 Tryz.prog 4=some (.bool false):=by kernel_rfl
theorem c5 : Tryz.prog.cellsOf 5=1:=by kernel_rfl
theorem a5 : aggT Tryz.prog 5=false:=by kernel_rfl
theorem k5 : Tryz.prog.underlying 5=some (.int .u8):=by kernel_rfl
theorem z5 : xe8 Tryz.prog 5=some (.int .u8 0):=by kernel_rfl
theorem a8 : aggT Tryz.prog 8=true:=by kernel_rfl
theorem a9 : aggT Tryz.prog 9=false:=by kernel_rfl
theorem z9 : xe8 Tryz.prog 9=some (.str ByteArray.empty):=by kernel_rfl
theorem c22 : Tryz.prog.cellsOf 22=1:=by kernel_rfl
theorem a22 : aggT Tryz.prog 22=false:=by kernel_rfl
theorem us22 : (Tryz.prog.underlying 22).isSome=true:=by kernel_rfl
theorem s22 : xd1 Tryz.prog 22=some 5:=by kernel_rfl
theorem z22 : xe8 Tryz.prog 22=some (.slice []):=by kernel_rfl
theorem c24 : Tryz.prog.cellsOf 24=1:=by kernel_rfl
theorem a24 : aggT Tryz.prog 24=false:=by kernel_rfl
theorem us24 : (Tryz.prog.underlying 24).isSome=true:=by kernel_rfl
theorem s24 : xd1 Tryz.prog 24=some 65:=by kernel_rfl
theorem c25 : Tryz.prog.cellsOf 25=1:=by kernel_rfl
theorem b25 : Tryz.prog.bytesOf 25=24:=by kernel_rfl
theorem a25 : aggT Tryz.prog 25=false:=by kernel_rfl
theorem us25 : (Tryz.prog.underlying 25).isSome=true:=by kernel_rfl
theorem s25 : xd1 Tryz.prog 25=some 3:=by kernel_rfl
theorem z25 : xe8 Tryz.prog 25=some (.slice []):=by kernel_rfl
theorem c27 : Tryz.prog.cellsOf 27=3:=by kernel_rfl
theorem a27 : aggT Tryz.prog 27=true:=by kernel_rfl
theorem us27 : (Tryz.prog.underlying 27).isSome=true:=by kernel_rfl
theorem ar27 : xn1 Tryz.prog 27=none:=by kernel_rfl
theorem z27 : xe8 Tryz.prog 27=some (.agg [(.int .i64 0),(.slice []),(.slice [])]):=by kernel_rfl
theorem f27_0 : xh2 Tryz.prog 27 0=some (0,3):=by kernel_rfl
theorem p27_0 : xi7 Tryz.prog 27 0=some (0,1):=by kernel_rfl
theorem f27_1 : xh2 Tryz.prog 27 1=some (1,24):=by kernel_rfl
theorem p27_1 : xi7 Tryz.prog 27 1=some (1,1):=by kernel_rfl
theorem f27_2 : xh2 Tryz.prog 27 2=some (2,25):=by kernel_rfl
theorem p27_2 : xi7 Tryz.prog 27 2=some (2,1):=by kernel_rfl
theorem pu27 : xm6 Tryz.prog 27=true:=by kernel_rfl
theorem c29 : Tryz.prog.cellsOf 29=1:=by kernel_rfl
theorem a29 : aggT Tryz.prog 29=false:=by kernel_rfl
theorem us29 : (Tryz.prog.underlying 29).isSome=true:=by kernel_rfl
theorem s29 : xd1 Tryz.prog 29=some 25:=by kernel_rfl
theorem c31 : Tryz.prog.cellsOf 31=2:=by kernel_rfl
theorem a31 : aggT Tryz.prog 31=true:=by kernel_rfl
theorem us31 : (Tryz.prog.underlying 31).isSome=true:=by kernel_rfl
theorem ar31 : xn1 Tryz.prog 31=none:=by kernel_rfl
theorem z31 : xe8 Tryz.prog 31=some (.agg [(.int .i64 0),(.slice [])]):=by kernel_rfl
theorem f31_0 : xh2 Tryz.prog 31 0=some (0,3):=by kernel_rfl
theorem p31_0 : xi7 Tryz.prog 31 0=some (0,1):=by kernel_rfl
theorem f31_1 : xh2 Tryz.prog 31 1=some (1,29):=by kernel_rfl
theorem p31_1 : xi7 Tryz.prog 31 1=some (1,1):=by kernel_rfl
theorem pu31 : xm6 Tryz.prog 31=true:=by kernel_rfl
theorem a57 : aggT Tryz.prog 57=false:=by kernel_rfl
theorem z57 : xe8 Tryz.prog 57=some .nilptr:=by kernel_rfl
theorem ar59 : xn1 Tryz.prog 59=none:=by kernel_rfl
theorem z59 : xe8 Tryz.prog 59=some (.agg [(.int .i64 0),(.slice [])]):=by kernel_rfl
theorem f59_0 : xh2 Tryz.prog 59 0=some (0,3):=by kernel_rfl
theorem p59_0 : xi7 Tryz.prog 59 0=some (0,1):=by kernel_rfl
theorem f59_1 : xh2 Tryz.prog 59 1=some (1,29):=by kernel_rfl
theorem pu59 : xm6 Tryz.prog 59=true:=by kernel_rfl
theorem c65 : Tryz.prog.cellsOf 65=2:=by kernel_rfl
theorem b65 : Tryz.prog.bytesOf 65=16:=by kernel_rfl
theorem a65 : aggT Tryz.prog 65=true:=by kernel_rfl
theorem us65 : (Tryz.prog.underlying 65).isSome=true:=by kernel_rfl
theorem s65 : xd1 Tryz.prog 65=none:=by kernel_rfl
theorem ar65 : xn1 Tryz.prog 65=some (2,3):=by kernel_rfl
theorem z65 : xe8 Tryz.prog 65=some (.agg [(.int .i64 0),(.int .i64 0)]):=by kernel_rfl
theorem p65_0 : xi7 Tryz.prog 65 0=some (0,1):=by kernel_rfl
theorem p65_1 : xi7 Tryz.prog 65 1=some (1,1):=by kernel_rfl
theorem pu65 : xm6 Tryz.prog 65=true:=by kernel_rfl
theorem s69 : xd1 Tryz.prog 69=some 71:=by kernel_rfl
theorem c71 : Tryz.prog.cellsOf 71=1:=by kernel_rfl
theorem b71 : Tryz.prog.bytesOf 71=24:=by kernel_rfl
theorem a71 : aggT Tryz.prog 71=false:=by kernel_rfl
theorem us71 : (Tryz.prog.underlying 71).isSome=true:=by kernel_rfl
theorem s71 : xd1 Tryz.prog 71=some 76:=by kernel_rfl
theorem ar71 : xn1 Tryz.prog 71=none:=by kernel_rfl
theorem z71 : xe8 Tryz.prog 71=some (.slice []):=by kernel_rfl
theorem c76 : Tryz.prog.cellsOf 76=2:=by kernel_rfl
theorem b76 : Tryz.prog.bytesOf 76=16:=by kernel_rfl
theorem a76 : aggT Tryz.prog 76=true:=by kernel_rfl
theorem us76 : (Tryz.prog.underlying 76).isSome=true:=by kernel_rfl
theorem ar76 : xn1 Tryz.prog 76=none:=by kernel_rfl
theorem z76 : xe8 Tryz.prog 76=some (.agg [(.int .i64 0),(.int .i64 0)]):=by kernel_rfl
theorem f76_0 : xh2 Tryz.prog 76 0=some (0,3):=by kernel_rfl
theorem p76_0 : xi7 Tryz.prog 76 0=some (0,1):=by kernel_rfl
theorem f76_1 : xh2 Tryz.prog 76 1=some (1,3):=by kernel_rfl
theorem p76_1 : xi7 Tryz.prog 76 1=some (1,1):=by kernel_rfl
theorem pu76 : xm6 Tryz.prog 76=true:=by kernel_rfl
theorem c87 : Tryz.prog.cellsOf 87=1:=by kernel_rfl
theorem a87 : aggT Tryz.prog 87=false:=by kernel_rfl
theorem k87 : Tryz.prog.underlying 87=some (.int .u64):=by kernel_rfl
theorem ar89 : xn1 Tryz.prog 89=none:=by kernel_rfl
theorem z89 : xe8 Tryz.prog 89=some (.agg [(.slice []),(.int .i64 0),(.int .u64 0)]):=by kernel_rfl
theorem f89_0 : xh2 Tryz.prog 89 0=some (0,22):=by kernel_rfl
theorem p89_0 : xi7 Tryz.prog 89 0=some (0,1):=by kernel_rfl
theorem f89_1 : xh2 Tryz.prog 89 1=some (1,3):=by kernel_rfl
theorem f89_2 : xh2 Tryz.prog 89 2=some (2,87):=by kernel_rfl
theorem pu89 : xm6 Tryz.prog 89=true:=by kernel_rfl
theorem s114 : xd1 Tryz.prog 114=none:=by kernel_rfl
theorem ar114 : xn1 Tryz.prog 114=some (8,4):=by kernel_rfl
theorem z114 : xe8 Tryz.prog 114=some (.agg [(.bool false),(.bool false),(.bool false),(.bool false),(.bool false),(.bool false),(.bool false),(.bool false)]):=by kernel_rfl
theorem s117 : xd1 Tryz.prog 117=some 4:=by kernel_rfl
attribute [go_sem] c2 b2 a2 s2 k2 z2 c3 b3 a3 s3 ar3 k3 z3 c4 b4 a4 us4 s4 ar4 bo4 z4 c5 a5 k5 z5
attribute [go_sem] a8 a9 z9
attribute [go_sem] c22 a22 us22 s22 z22 c24 a24 us24 s24 c25 b25 a25 us25 s25 z25
attribute [go_sem] c27 a27 us27 ar27 z27 f27_0 p27_0 f27_1 p27_1 f27_2 p27_2 pu27 c29 a29 us29 s29
attribute [go_sem] c31 a31 us31 ar31 z31 f31_0 p31_0 f31_1 p31_1 pu31 a57 z57
attribute [go_sem] ar59 z59 f59_0 p59_0 f59_1 pu59 c65 b65 a65 us65 s65 ar65 z65 p65_0 p65_1 pu65 s69 c71 b71 a71 us71 s71 ar71 z71
attribute [go_sem] c76 b76 a76 us76 ar76 z76 f76_0 p76_0 f76_1 p76_1 pu76 c87 a87 k87
attribute [go_sem] ar89 z89 f89_0 p89_0 f89_1 f89_2 pu89
attribute [go_sem] s114 ar114 z114 s117
end Abs.Y.Ty
