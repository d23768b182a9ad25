/- What functions of this program compute, as contracts over plain data, with what the proofs need of them. No condition. -/
import Derived.Test.YtoppjihdipidiaaG1
set_option linter.all false
namespace Abs.Y
open Go Go.Proofs Abs
set_option maxRecDepth 100000

/-! ### Membership -/
/-- The first place of an element, as Go tells it. -/
def idxI (p : Int → Bool) (xs : List Int) : Int := match xs.findIdx? p with | some i => (i : Nat) | none => -1
/-- All of one clause are in the other. -/
def subI (a b : List Int) : Bool := !(a.any fun x => !(b.any (· == x)))
/-! ### Equality -/
end Abs.Y
