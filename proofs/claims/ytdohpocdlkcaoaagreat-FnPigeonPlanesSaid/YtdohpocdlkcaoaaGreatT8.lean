/- What functions of this program compute, over plain data. No condition. -/
import Derived.Test.YtdohpocdlkcaoaaGreatT3a
import Derived.Test.YtdohpocdlkcaoaaGreatT7
import Derived.Test.YtdohpocdlkcaoaaGreatAbsBox
set_option linter.all false
namespace Abs.Y
open Go Go.Proofs Abs
open Nat renaming reduceEqDiff -> Qa, reduceLT -> Qb, reduceAdd -> Qc, reduceMul -> Qd, reduceSub -> Qe, reduceLeDiff -> Qf, reduceSubDiff -> Qg, reduceBEq -> Qh
open Bool renaming not_eq_true' -> Ba, not_eq_false' -> Bb, and_eq_true -> Bc, or_eq_true -> Bd, or_eq_false_iff -> Be
open Int renaming ofNat_lt -> Ia, ofNat_le -> Ib, not_lt -> Ic, not_le -> Ie
open Decidable renaming not_not -> Da
set_option maxRecDepth 100000

section
variable {u : Int} {cs : List (List Int)} {st : List PSt} {k : Nat} (hu : okVars u=true) (hk : k < st.length) (hl : st.length<=1048576) (hx : ∀ j,(st.getD j PSt.z).q.co.length<=1048576)
 (hcl : cs.length<=1048576) (hcs : ∀ c ∈ cs,okClause u c=true) (hcx : ∀ c ∈ cs,c.length<=1048576)
include hu hk hl hx hcl hcs hcx
end
end Abs.Y
