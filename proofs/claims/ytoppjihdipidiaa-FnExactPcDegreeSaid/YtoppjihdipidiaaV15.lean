/- What functions of this program compute, as contracts over plain data, with what the proofs need of them. No condition. -/
import Derived.Test.YtoppjihdipidiaaV14
set_option linter.all false
namespace Abs.Y
open Go Go.Proofs Abs
set_option maxRecDepth 100000

/-! ### A list with a polynomial for each clause -/
def goodL (p v : Int) (cs : List (List Int)) (list : List (List (Int × Int))) : Bool := ((okCnf v cs && primeB p v) && decide (list.length = cs.length)) && list.all (isT p (2 ^ v.toNat))
end Abs.Y
