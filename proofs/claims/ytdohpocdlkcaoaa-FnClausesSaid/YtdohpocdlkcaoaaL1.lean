/- What functions of this program compute, over plain data. No condition. -/
import Derived.Test.YtdohpocdlkcaoaaG3
import Derived.Test.YtdohpocdlkcaoaaAbsLaws
set_option linter.all false
namespace Abs.Y
open Go Go.Proofs Abs
open Nat renaming reduceEqDiff -> Qa, reduceLT -> Qb, reduceAdd -> Qc, reduceMul -> Qd, reduceSub -> Qe, reduceLeDiff -> Qf, reduceSubDiff -> Qg, reduceBEq -> Qh
open Bool renaming not_eq_true' -> Ba, not_eq_false' -> Bb, and_eq_true -> Bc, or_eq_true -> Bd, or_eq_false_iff -> Be
open Int renaming ofNat_lt -> Ia, ofNat_le -> Ib, not_lt -> Ic, not_le -> Ie
open Decidable renaming not_not -> Da
set_option maxRecDepth 100000

end Abs.Y
