/- The facts on the types of this seat that the abstract walk asks for, by program. No condition. -/
import Derived.Test.YtiafnejjhnjbfaaGreatAbsRow
import Derived.Test.YtiafnejjhnjbfaaGreatChecked
set_option linter.all false
namespace Abs.Y.Ty
open Go Go.Proofs Abs
open Nat renaming reduceEqDiff -> Qa, reduceLT -> Qb, reduceAdd -> Qc, reduceMul -> Qd, reduceSub -> Qe, reduceLeDiff -> Qf, reduceSubDiff -> Qg, reduceBEq -> Qh
open Bool renaming not_eq_true' -> Ba, not_eq_false' -> Bb, and_eq_true -> Bc, or_eq_true -> Bh, or_eq_false_iff -> Be
open Int renaming ofNat_lt -> Ia, ofNat_le -> Ib, not_lt -> Ic, not_le -> Ie
open Decidable renaming not_not -> Da
theorem c2 : Tryz.prog.cellsOf 2=1:=by kernel_rfl
theorem b2 : Tryz.prog.bytesOf 2=8:=by kernel_rfl
theorem a2 : aggT Tryz.prog 2=false:=by kernel_rfl
theorem s2 : elemSl Tryz.prog 2=none:=by kernel_rfl
theorem k2 : Tryz.prog.underlying 2=some (.int .i64):=by kernel_rfl
theorem z2 : zeroD Tryz.prog 2=some (.int .i64 0):=by kernel_rfl
theorem c3 : Tryz.prog.cellsOf 3=1:=by kernel_rfl
theorem b3 : Tryz.prog.bytesOf 3=8:=by kernel_rfl
theorem a3 : aggT Tryz.prog 3=false:=by kernel_rfl
theorem k3 : Tryz.prog.underlying 3=some (.int .i64):=by kernel_rfl
theorem z3 : zeroD Tryz.prog 3=some (.int .i64 0):=by kernel_rfl
theorem c4 : Tryz.prog.cellsOf 4=1:=by kernel_rfl
theorem b4 : Tryz.prog.bytesOf 4=1:=by kernel_rfl
theorem a4 : aggT Tryz.prog 4=false:=by kernel_rfl
theorem bo4 : isBoolT Tryz.prog 4=true:=by kernel_rfl
theorem z4 : zeroD Tryz.prog 4=some (.bool false):=by kernel_rfl
theorem c5 : Tryz.prog.cellsOf 5=1:=by kernel_rfl
theorem a5 : aggT Tryz.prog 5=false:=by kernel_rfl
theorem k5 : Tryz.prog.underlying 5=some (.int .u8):=by kernel_rfl
theorem z5 : zeroD Tryz.prog 5=some (.int .u8 0):=by kernel_rfl
theorem c6 : Tryz.prog.cellsOf 6=1:=by kernel_rfl
theorem c7 : Tryz.prog.cellsOf 7=4:=by kernel_rfl
theorem c9 : Tryz.prog.cellsOf 9=1:=by kernel_rfl
theorem a9 : aggT Tryz.prog 9=false:=by kernel_rfl
theorem us9 : (Tryz.prog.underlying 9).isSome=true:=by kernel_rfl
theorem st9 : isStrT Tryz.prog 9=true:=by kernel_rfl
theorem z9 : zeroD Tryz.prog 9=some (.str ByteArray.empty):=by kernel_rfl
theorem c22 : Tryz.prog.cellsOf 22=1:=by kernel_rfl
theorem a22 : aggT Tryz.prog 22=false:=by kernel_rfl
theorem us22 : (Tryz.prog.underlying 22).isSome=true:=by kernel_rfl
theorem s22 : elemSl Tryz.prog 22=some 5:=by kernel_rfl
theorem c36 : Tryz.prog.cellsOf 36=1:=by kernel_rfl
theorem a36 : aggT Tryz.prog 36=false:=by kernel_rfl
theorem us36 : (Tryz.prog.underlying 36).isSome=true:=by kernel_rfl
theorem ar36 : elemAr Tryz.prog 36=none:=by kernel_rfl
theorem z36 : zeroD Tryz.prog 36=some .nilptr:=by kernel_rfl
theorem c51 : Tryz.prog.cellsOf 51=1:=by kernel_rfl
theorem a51 : aggT Tryz.prog 51=false:=by kernel_rfl
theorem k51 : Tryz.prog.underlying 51=some (.int .u64):=by kernel_rfl
theorem z51 : zeroD Tryz.prog 51=some (.int .u64 0):=by kernel_rfl
theorem ar53 : elemAr Tryz.prog 53=none:=by kernel_rfl
theorem z53 : zeroD Tryz.prog 53=some (.agg [(.slice []),(.int .i64 0),(.int .u64 0)]):=by kernel_rfl
theorem f53_0 : fieldOf Tryz.prog 53 0=some (0,22):=by kernel_rfl
theorem p53_0 : places Tryz.prog 53 0=some (0,1):=by kernel_rfl
theorem f53_1 : fieldOf Tryz.prog 53 1=some (1,3):=by kernel_rfl
theorem f53_2 : fieldOf Tryz.prog 53 2=some (2,51):=by kernel_rfl
theorem pu53 : partsU Tryz.prog 53=true:=by kernel_rfl
theorem s56 : elemSl Tryz.prog 56=some 9:=by kernel_rfl
theorem ar62 : elemAr Tryz.prog 62=none:=by kernel_rfl
theorem z62 : zeroD Tryz.prog 62=some (.agg [(.int .u8 0),.nilptr,.nilptr,(.str ByteArray.empty)]):=by kernel_rfl
theorem f62_0 : fieldOf Tryz.prog 62 0=some (0,5):=by kernel_rfl
theorem p62_0 : places Tryz.prog 62 0=some (0,1):=by kernel_rfl
theorem f62_1 : fieldOf Tryz.prog 62 1=some (1,36):=by kernel_rfl
theorem p62_1 : places Tryz.prog 62 1=some (1,1):=by kernel_rfl
theorem f62_2 : fieldOf Tryz.prog 62 2=some (2,36):=by kernel_rfl
theorem p62_2 : places Tryz.prog 62 2=some (2,1):=by kernel_rfl
theorem f62_3 : fieldOf Tryz.prog 62 3=some (3,9):=by kernel_rfl
theorem p62_3 : places Tryz.prog 62 3=some (3,1):=by kernel_rfl
theorem pu62 : partsU Tryz.prog 62=true:=by kernel_rfl
theorem s97 : elemSl Tryz.prog 97=some 3:=by kernel_rfl
theorem a146 : aggT Tryz.prog 146=true:=by kernel_rfl
theorem z146 : zeroD Tryz.prog 146=some (.agg [.nilptr,.nilptr,.nilptr,(.str ByteArray.empty)]):=by kernel_rfl
attribute [go_sem] c2 b2 a2 s2 k2 z2 c3 b3 a3 k3 z3 c4 b4 a4 bo4 z4 c5 a5 k5 z5 c6
attribute [go_sem] c7 c9 a9 us9 st9 z9
attribute [go_sem] c22 a22 us22 s22 c36 a36 us36 ar36 z36
attribute [go_sem] c51 a51 k51 z51 ar53 z53 f53_0 p53_0 f53_1 f53_2
attribute [go_sem] pu53 s56 ar62 z62 f62_0 p62_0 f62_1 p62_1 f62_2 p62_2 f62_3 p62_3 pu62
attribute [go_sem] s97
attribute [go_sem] a146 z146
end Abs.Y.Ty
