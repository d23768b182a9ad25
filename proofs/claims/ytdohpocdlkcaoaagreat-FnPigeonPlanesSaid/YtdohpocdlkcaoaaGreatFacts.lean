/- The facts on the types of this seat that the abstract walk asks for, by program. No condition. -/
import Derived.Test.YtdohpocdlkcaoaaGreatAbsRow
import Derived.Test.YtdohpocdlkcaoaaGreatChecked
set_option linter.all false
namespace Abs.Y.Ty
open Go Go.Proofs Abs
open Nat renaming reduceEqDiff -> Qa, reduceLT -> Qb, reduceAdd -> Qc, reduceMul -> Qd, reduceSub -> Qe, reduceLeDiff -> Qf, reduceSubDiff -> Qg, reduceBEq -> Qh
open Bool renaming not_eq_true' -> Ba, not_eq_false' -> Bb, and_eq_true -> Bc, or_eq_true -> Bd, or_eq_false_iff -> Be
open Int renaming ofNat_lt -> Ia, ofNat_le -> Ib, not_lt -> Ic, not_le -> Ie
open Decidable renaming not_not -> Da
theorem c2 : Tryz.prog.cellsOf 2=1:=by kernel_rfl
theorem b2 : Tryz.prog.bytesOf 2=8:=by kernel_rfl
theorem a2 : aggT Tryz.prog 2=false:=by kernel_rfl
theorem s2 : elemSl Tryz.prog 2=none:=by kernel_rfl
theorem k2 : Tryz.prog.underlying 2=some (.int .i64):=by kernel_rfl
theorem z2 : zeroD Tryz.prog 2=some (.int .i64 0):=by kernel_rfl
theorem c3 : Tryz.prog.cellsOf 3=1:=by kernel_rfl
theorem b3 : Tryz.prog.bytesOf 3=8:=by kernel_rfl
theorem a3 : aggT Tryz.prog 3=false:=by kernel_rfl
theorem s3 : elemSl Tryz.prog 3=none:=by kernel_rfl
theorem ar3 : elemAr Tryz.prog 3=none:=by kernel_rfl
theorem k3 : Tryz.prog.underlying 3=some (.int .i64):=by kernel_rfl
theorem z3 : zeroD Tryz.prog 3=some (.int .i64 0):=by kernel_rfl
theorem c4 : Tryz.prog.cellsOf 4=1:=by kernel_rfl
theorem b4 : Tryz.prog.bytesOf 4=1:=by kernel_rfl
theorem a4 : aggT Tryz.prog 4=false:=by kernel_rfl
theorem s4 : elemSl Tryz.prog 4=none:=by kernel_rfl
theorem bo4 : isBoolT Tryz.prog 4=true:=by kernel_rfl
theorem z4 : zeroD Tryz.prog 4=some (.bool false):=by kernel_rfl
theorem c5 : Tryz.prog.cellsOf 5=1:=by kernel_rfl
theorem a5 : aggT Tryz.prog 5=false:=by kernel_rfl
theorem s5 : elemSl Tryz.prog 5=none:=by kernel_rfl
theorem k5 : Tryz.prog.underlying 5=some (.int .u8):=by kernel_rfl
theorem z5 : zeroD Tryz.prog 5=some (.int .u8 0):=by kernel_rfl
theorem c6 : Tryz.prog.cellsOf 6=1:=by kernel_rfl
theorem s6 : elemSl Tryz.prog 6=none:=by kernel_rfl
theorem a9 : aggT Tryz.prog 9=false:=by kernel_rfl
theorem z9 : zeroD Tryz.prog 9=some (.str ByteArray.empty):=by kernel_rfl
theorem c22 : Tryz.prog.cellsOf 22=1:=by kernel_rfl
theorem a22 : aggT Tryz.prog 22=false:=by kernel_rfl
theorem us22 : (Tryz.prog.underlying 22).isSome=true:=by kernel_rfl
theorem s22 : elemSl Tryz.prog 22=some 5:=by kernel_rfl
theorem z22 : zeroD Tryz.prog 22=some (.slice []):=by kernel_rfl
theorem c25 : Tryz.prog.cellsOf 25=1:=by kernel_rfl
theorem a25 : aggT Tryz.prog 25=false:=by kernel_rfl
theorem us25 : (Tryz.prog.underlying 25).isSome=true:=by kernel_rfl
theorem s25 : elemSl Tryz.prog 25=some 41:=by kernel_rfl
theorem z25 : zeroD Tryz.prog 25=some (.slice []):=by kernel_rfl
theorem c27 : Tryz.prog.cellsOf 27=2:=by kernel_rfl
theorem a27 : aggT Tryz.prog 27=true:=by kernel_rfl
theorem us27 : (Tryz.prog.underlying 27).isSome=true:=by kernel_rfl
theorem ar27 : elemAr Tryz.prog 27=none:=by kernel_rfl
theorem z27 : zeroD Tryz.prog 27=some (.agg [(.int .i64 0),(.slice [])]):=by kernel_rfl
theorem f27_0 : fieldOf Tryz.prog 27 0=some (0,3):=by kernel_rfl
theorem p27_0 : places Tryz.prog 27 0=some (0,1):=by kernel_rfl
theorem f27_1 : fieldOf Tryz.prog 27 1=some (1,25):=by kernel_rfl
theorem p27_1 : places Tryz.prog 27 1=some (1,1):=by kernel_rfl
theorem pu27 : partsU Tryz.prog 27=true:=by kernel_rfl
theorem c31 : Tryz.prog.cellsOf 31=1:=by kernel_rfl
theorem a31 : aggT Tryz.prog 31=false:=by kernel_rfl
theorem us31 : (Tryz.prog.underlying 31).isSome=true:=by kernel_rfl
theorem s31 : elemSl Tryz.prog 31=some 47:=by kernel_rfl
theorem c41 : Tryz.prog.cellsOf 41=1:=by kernel_rfl
theorem b41 : Tryz.prog.bytesOf 41=24:=by kernel_rfl
theorem a41 : aggT Tryz.prog 41=false:=by kernel_rfl
theorem us41 : (Tryz.prog.underlying 41).isSome=true:=by kernel_rfl
theorem s41 : elemSl Tryz.prog 41=some 3:=by kernel_rfl
theorem z41 : zeroD Tryz.prog 41=some (.slice []):=by kernel_rfl
theorem c43 : Tryz.prog.cellsOf 43=2:=by kernel_rfl
theorem a43 : aggT Tryz.prog 43=true:=by kernel_rfl
theorem us43 : (Tryz.prog.underlying 43).isSome=true:=by kernel_rfl
theorem ar43 : elemAr Tryz.prog 43=none:=by kernel_rfl
theorem z43 : zeroD Tryz.prog 43=some (.agg [(.slice []),(.int .i64 0)]):=by kernel_rfl
theorem f43_0 : fieldOf Tryz.prog 43 0=some (0,41):=by kernel_rfl
theorem p43_0 : places Tryz.prog 43 0=some (0,1):=by kernel_rfl
theorem f43_1 : fieldOf Tryz.prog 43 1=some (1,3):=by kernel_rfl
theorem p43_1 : places Tryz.prog 43 1=some (1,1):=by kernel_rfl
theorem pu43 : partsU Tryz.prog 43=true:=by kernel_rfl
theorem a46 : aggT Tryz.prog 46=true:=by kernel_rfl
theorem z46 : zeroD Tryz.prog 46=some (.agg [(.slice []),(.int .i64 0),(.int .i64 0),(.int .i64 0),(.int .i64 0),(.int .i64 0)]):=by kernel_rfl
theorem c47 : Tryz.prog.cellsOf 47=6:=by kernel_rfl
theorem b47 : Tryz.prog.bytesOf 47=64:=by kernel_rfl
theorem a47 : aggT Tryz.prog 47=true:=by kernel_rfl
theorem us47 : (Tryz.prog.underlying 47).isSome=true:=by kernel_rfl
theorem ar47 : elemAr Tryz.prog 47=none:=by kernel_rfl
theorem z47 : zeroD Tryz.prog 47=some (.agg [(.slice []),(.int .i64 0),(.int .i64 0),(.int .i64 0),(.int .i64 0),(.int .i64 0)]):=by kernel_rfl
theorem f47_0 : fieldOf Tryz.prog 47 0=some (0,43):=by kernel_rfl
theorem p47_0 : places Tryz.prog 47 0=some (0,2):=by kernel_rfl
theorem f47_1 : fieldOf Tryz.prog 47 1=some (2,3):=by kernel_rfl
theorem p47_1 : places Tryz.prog 47 1=some (2,1):=by kernel_rfl
theorem f47_2 : fieldOf Tryz.prog 47 2=some (3,3):=by kernel_rfl
theorem p47_2 : places Tryz.prog 47 2=some (3,1):=by kernel_rfl
theorem f47_3 : fieldOf Tryz.prog 47 3=some (4,3):=by kernel_rfl
theorem p47_3 : places Tryz.prog 47 3=some (4,1):=by kernel_rfl
theorem f47_4 : fieldOf Tryz.prog 47 4=some (5,3):=by kernel_rfl
theorem p47_4 : places Tryz.prog 47 4=some (5,1):=by kernel_rfl
theorem pu47 : partsU Tryz.prog 47=true:=by kernel_rfl
theorem a50 : aggT Tryz.prog 50=true:=by kernel_rfl
theorem z50 : zeroD Tryz.prog 50=some (.agg [(.int .i64 0),(.slice []),(.slice [])]):=by kernel_rfl
theorem ar69 : elemAr Tryz.prog 69=none:=by kernel_rfl
theorem z69 : zeroD Tryz.prog 69=some (.agg [(.int .i64 0),(.slice [])]):=by kernel_rfl
theorem f69_0 : fieldOf Tryz.prog 69 0=some (0,3):=by kernel_rfl
theorem p69_0 : places Tryz.prog 69 0=some (0,1):=by kernel_rfl
theorem f69_1 : fieldOf Tryz.prog 69 1=some (1,31):=by kernel_rfl
theorem pu69 : partsU Tryz.prog 69=true:=by kernel_rfl
theorem ar80 : elemAr Tryz.prog 80=none:=by kernel_rfl
theorem z80 : zeroD Tryz.prog 80=some (.agg [(.int .i64 0),(.slice [])]):=by kernel_rfl
theorem f80_0 : fieldOf Tryz.prog 80 0=some (0,3):=by kernel_rfl
theorem p80_0 : places Tryz.prog 80 0=some (0,1):=by kernel_rfl
theorem f80_1 : fieldOf Tryz.prog 80 1=some (1,25):=by kernel_rfl
theorem pu80 : partsU Tryz.prog 80=true:=by kernel_rfl
theorem c88 : Tryz.prog.cellsOf 88=1:=by kernel_rfl
theorem a88 : aggT Tryz.prog 88=false:=by kernel_rfl
theorem k88 : Tryz.prog.underlying 88=some (.int .u64):=by kernel_rfl
theorem ar90 : elemAr Tryz.prog 90=none:=by kernel_rfl
theorem z90 : zeroD Tryz.prog 90=some (.agg [(.slice []),(.int .i64 0),(.int .u64 0)]):=by kernel_rfl
theorem f90_0 : fieldOf Tryz.prog 90 0=some (0,22):=by kernel_rfl
theorem p90_0 : places Tryz.prog 90 0=some (0,1):=by kernel_rfl
theorem f90_1 : fieldOf Tryz.prog 90 1=some (1,3):=by kernel_rfl
theorem f90_2 : fieldOf Tryz.prog 90 2=some (2,88):=by kernel_rfl
theorem pu90 : partsU Tryz.prog 90=true:=by kernel_rfl
attribute [go_sem] c2 b2 a2 s2 k2 z2 c3 b3 a3 s3 ar3 k3 z3 c4 b4 a4 s4 bo4 z4 c5 a5 s5 k5 z5 c6 s6
attribute [go_sem] a9 z9
attribute [go_sem] c22 a22 us22 s22 z22 c25 a25 us25 s25 z25
attribute [go_sem] c27 a27 us27 ar27 z27 f27_0 p27_0 f27_1 p27_1 pu27 c31 a31 us31 s31 c41 b41 a41 us41 s41 z41
attribute [go_sem] c43 a43 us43 ar43 z43 f43_0 p43_0 f43_1 p43_1 pu43 a46 z46 c47 b47 a47 us47 ar47 z47 f47_0 p47_0
attribute [go_sem] f47_1 p47_1 f47_2 p47_2 f47_3 p47_3 f47_4 p47_4 pu47 a50 z50
attribute [go_sem] ar69 z69 f69_0 p69_0 f69_1 pu69
attribute [go_sem] ar80 z80 f80_0 p80_0 f80_1 pu80 c88 a88 k88
attribute [go_sem] ar90 z90 f90_0 p90_0 f90_1 f90_2 pu90
end Abs.Y.Ty
