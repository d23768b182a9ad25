/- What functions of this program compute, over plain data. No condition. -/
import Derived.Test.YtiafnejjhnjbfaaDoorR3
import Derived.Test.YtiafnejjhnjbfaaDoorFO7
set_option linter.all false
open Nat renaming reduceEqDiff -> Qa, reduceLT -> Qb, reduceAdd -> Qc, reduceMul -> Qd, reduceSub -> Qe, reduceLeDiff -> Qf, reduceSubDiff -> Qg, reduceBEq -> Qh
open Bool renaming not_eq_true' -> Ba, not_eq_false' -> Bb, and_eq_true -> Bc, or_eq_true -> Bh, or_eq_false_iff -> Be
open Int renaming ofNat_lt -> Ia, ofNat_le -> Ib, not_lt -> Ic, not_le -> Ie
open Decidable renaming not_not -> Da
namespace Abs.Y
open Go Go.Proofs Abs
set_option maxRecDepth 100000

def By.st (b : By) (c : UInt8) : ByteArray:=match b c with
 | none => ⟨#[]⟩
 | some y => y.T
def By.L (b : By) : List D:=[.str (b.st 97),.str (b.st 98),.str (b.st 99)]
end Abs.Y

namespace Abs.Y
open Go Go.Proofs Abs
set_option maxRecDepth 100000

noncomputable def caseF (k : Int) (a b c : ByteArray) : Fm:=(sch (k - 1).toNat).sub (f3 (fmS a) (fmS b) (fmS c))
noncomputable def caseG (k : Int) (a b c : ByteArray) : Bool:=decide (1<=k) && decide (k<=10) && okS a && okS b && okS c && decide ((caseF k a b c).T.size<=80)
noncomputable def caseS (k : Int) (a b c : ByteArray) : ByteArray:=if caseG k a b c then (caseF k a b c).T else ⟨#[]⟩
end Abs.Y

namespace Abs
open Go Go.Proofs
end Abs
namespace Abs.Y
open Go Go.Proofs Abs
set_option maxRecDepth 100000

end Abs.Y
