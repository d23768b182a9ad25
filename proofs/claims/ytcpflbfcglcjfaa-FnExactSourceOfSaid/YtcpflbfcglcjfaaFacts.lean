/- The facts on the types of this seat that the abstract walk asks for, by program. No condition. -/
import Derived.Test.YtcpflbfcglcjfaaAbsRow
import Derived.Test.YtcpflbfcglcjfaaChecked
set_option linter.all false
namespace Abs.Y.Ty
open Go Go.Proofs Abs
open Nat renaming reduceEqDiff -> Qa, reduceLT -> Qb, reduceAdd -> Qc, reduceMul -> Qd, reduceSub -> Qe, reduceLeDiff -> Qf, reduceSubDiff -> Qg, reduceBEq -> Qh
open Bool renaming not_eq_true' -> Ba, not_eq_false' -> Bb, and_eq_true -> Bc, or_eq_true -> Bd, or_eq_false_iff -> Be
open Int renaming ofNat_lt -> Ia, ofNat_le -> Ib, not_lt -> Ic, not_le -> Ie
open Decidable renaming not_not -> Da
theorem c2 : Try.prog.cellsOf 2=1:=by kernel_rfl
theorem b2 : Try.prog.bytesOf 2=8:=by kernel_rfl
theorem a2 : aggT Try.prog 2=false:=by kernel_rfl
theorem s2 : elemSl Try.prog 2=none:=by kernel_rfl
theorem k2 : Try.prog.underlying 2=some (.int .i64):=by kernel_rfl
theorem z2 : zeroD Try.prog 2=some (.int .i64 0):=by kernel_rfl
theorem c3 : Try.prog.cellsOf 3=1:=by kernel_rfl
theorem b3 : Try.prog.bytesOf 3=8:=by kernel_rfl
theorem a3 : aggT Try.prog 3=false:=by kernel_rfl
theorem ar3 : elemAr Try.prog 3=none:=by kernel_rfl
theorem k3 : Try.prog.underlying 3=some (.int .i64):=by kernel_rfl
theorem z3 : zeroD Try.prog 3=some (.int .i64 0):=by kernel_rfl
theorem c4 : Try.prog.cellsOf 4=1:=by kernel_rfl
theorem b4 : Try.prog.bytesOf 4=1:=by kernel_rfl
theorem a4 : aggT Try.prog 4=false:=by kernel_rfl
theorem bo4 : isBoolT Try.prog 4=true:=by kernel_rfl
theorem z4 : zeroD Try.prog 4=some (.bool false):=by kernel_rfl
theorem c5 : Try.prog.cellsOf 5=1:=by kernel_rfl
theorem b5 : Try.prog.bytesOf 5=1:=by kernel_rfl
theorem a5 : aggT Try.prog 5=false:=by kernel_rfl
theorem s5 : elemSl Try.prog 5=none:=by kernel_rfl
theorem z5 : zeroD Try.prog 5=some (.int .u8 0):=by kernel_rfl
theorem c6 : Try.prog.cellsOf 6=1:=by kernel_rfl
theorem a6 : aggT Try.prog 6=false:=by kernel_rfl
theorem s6 : elemSl Try.prog 6=none:=by kernel_rfl
theorem z6 : zeroD Try.prog 6=some (.int .u8 0):=by kernel_rfl
theorem c7 : Try.prog.cellsOf 7=4:=by kernel_rfl
theorem a7 : aggT Try.prog 7=true:=by kernel_rfl
theorem a8 : aggT Try.prog 8=true:=by kernel_rfl
theorem a9 : aggT Try.prog 9=false:=by kernel_rfl
theorem z9 : zeroD Try.prog 9=some (.str ByteArray.empty):=by kernel_rfl
theorem a10 : aggT Try.prog 10=false:=by kernel_rfl
theorem a11 : aggT Try.prog 11=false:=by kernel_rfl
theorem a22 : aggT Try.prog 22=false:=by kernel_rfl
theorem z22 : zeroD Try.prog 22=some (.slice []):=by kernel_rfl
theorem c30 : Try.prog.cellsOf 30=1:=by kernel_rfl
theorem a30 : aggT Try.prog 30=false:=by kernel_rfl
theorem us30 : (Try.prog.underlying 30).isSome=true:=by kernel_rfl
theorem s30 : elemSl Try.prog 30=some 52:=by kernel_rfl
theorem c32 : Try.prog.cellsOf 32=2:=by kernel_rfl
theorem a32 : aggT Try.prog 32=true:=by kernel_rfl
theorem us32 : (Try.prog.underlying 32).isSome=true:=by kernel_rfl
theorem ar32 : elemAr Try.prog 32=none:=by kernel_rfl
theorem f32_0 : fieldOf Try.prog 32 0=some (0,3):=by kernel_rfl
theorem f32_1 : fieldOf Try.prog 32 1=some (1,30):=by kernel_rfl
theorem c34 : Try.prog.cellsOf 34=2:=by kernel_rfl
theorem a34 : aggT Try.prog 34=true:=by kernel_rfl
theorem us34 : (Try.prog.underlying 34).isSome=true:=by kernel_rfl
theorem ar34 : elemAr Try.prog 34=none:=by kernel_rfl
theorem z34 : zeroD Try.prog 34=some (.agg [(.int .i64 0),(.slice [])]):=by kernel_rfl
theorem f34_0 : fieldOf Try.prog 34 0=some (0,3):=by kernel_rfl
theorem f34_1 : fieldOf Try.prog 34 1=some (1,30):=by kernel_rfl
theorem c52 : Try.prog.cellsOf 52=1:=by kernel_rfl
theorem b52 : Try.prog.bytesOf 52=24:=by kernel_rfl
theorem a52 : aggT Try.prog 52=false:=by kernel_rfl
theorem us52 : (Try.prog.underlying 52).isSome=true:=by kernel_rfl
theorem s52 : elemSl Try.prog 52=some 3:=by kernel_rfl
theorem z52 : zeroD Try.prog 52=some (.slice []):=by kernel_rfl
theorem c114 : Try.prog.cellsOf 114=6:=by kernel_rfl
theorem a114 : aggT Try.prog 114=true:=by kernel_rfl
theorem us114 : (Try.prog.underlying 114).isSome=true:=by kernel_rfl
theorem ar114 : elemAr Try.prog 114=none:=by kernel_rfl
theorem z114 : zeroD Try.prog 114=some (.agg [(.slice []),(.slice []),(.slice []),(.slice []),(.slice []),(.slice [])]):=by kernel_rfl
theorem f114_0 : fieldOf Try.prog 114 0=some (0,30):=by kernel_rfl
theorem f114_1 : fieldOf Try.prog 114 1=some (1,52):=by kernel_rfl
theorem f114_2 : fieldOf Try.prog 114 2=some (2,52):=by kernel_rfl
theorem f114_3 : fieldOf Try.prog 114 3=some (3,52):=by kernel_rfl
theorem f114_4 : fieldOf Try.prog 114 4=some (4,52):=by kernel_rfl
theorem f114_5 : fieldOf Try.prog 114 5=some (5,30):=by kernel_rfl
theorem pu114 : partsU Try.prog 114=true:=by kernel_rfl
theorem c117 : Try.prog.cellsOf 117=1:=by kernel_rfl
theorem a117 : aggT Try.prog 117=false:=by kernel_rfl
theorem us117 : (Try.prog.underlying 117).isSome=true:=by kernel_rfl
theorem ar117 : elemAr Try.prog 117=none:=by kernel_rfl
theorem c120 : Try.prog.cellsOf 120=1:=by kernel_rfl
theorem a120 : aggT Try.prog 120=false:=by kernel_rfl
theorem us120 : (Try.prog.underlying 120).isSome=true:=by kernel_rfl
theorem s120 : elemSl Try.prog 120=some 190:=by kernel_rfl
theorem c121 : Try.prog.cellsOf 121=1:=by kernel_rfl
theorem a121 : aggT Try.prog 121=false:=by kernel_rfl
theorem us121 : (Try.prog.underlying 121).isSome=true:=by kernel_rfl
theorem mt121 : mapT Try.prog 121=some (.u16,.i64):=by kernel_rfl
theorem ar123 : elemAr Try.prog 123=none:=by kernel_rfl
theorem z123 : zeroD Try.prog 123=some (.agg [(.slice []),.nilmap,(.int .i64 0)]):=by kernel_rfl
theorem f123_0 : fieldOf Try.prog 123 0=some (0,120):=by kernel_rfl
theorem f123_1 : fieldOf Try.prog 123 1=some (1,121):=by kernel_rfl
theorem p123_1 : places Try.prog 123 1=some (1,1):=by kernel_rfl
theorem f123_2 : fieldOf Try.prog 123 2=some (2,3):=by kernel_rfl
theorem pu123 : partsU Try.prog 123=true:=by kernel_rfl
theorem k183 : Try.prog.underlying 183=some (.int .u64):=by kernel_rfl
theorem c190 : Try.prog.cellsOf 190=1:=by kernel_rfl
theorem b190 : Try.prog.bytesOf 190=2:=by kernel_rfl
theorem a190 : aggT Try.prog 190=false:=by kernel_rfl
theorem k190 : Try.prog.underlying 190=some (.int .u16):=by kernel_rfl
theorem z190 : zeroD Try.prog 190=some (.int .u16 0):=by kernel_rfl
attribute [go_sem] c2 b2 a2 s2 k2 z2 c3 b3 a3 ar3 k3 z3 c4 b4 a4 bo4 z4 c5 b5 a5 s5 z5 c6 a6 s6 z6
attribute [go_sem] c7 a7 a8 a9 z9
attribute [go_sem] a10 a11
attribute [go_sem] a22 z22 c30 a30 us30 s30
attribute [go_sem] c32 a32 us32 ar32 f32_0 f32_1 c34 a34 us34 ar34 z34 f34_0 f34_1 c52 b52 a52 us52 s52
attribute [go_sem] z52
attribute [go_sem] c114 a114 us114 ar114 z114 f114_0 f114_1 f114_2 f114_3 f114_4 f114_5 pu114 c117 a117 us117 ar117 c120 a120 us120 s120
attribute [go_sem] c121 a121 us121 mt121 ar123 z123 f123_0 f123_1 p123_1 f123_2 pu123
attribute [go_sem] k183
attribute [go_sem] c190 b190 a190 k190 z190
end Abs.Y.Ty
