/- What functions of this program compute, as contracts over plain data, with what the proofs need of them. No condition. -/
import Derived.Test.YtoppjihdipidiaaG3
set_option linter.all false
namespace Abs.Y
open Go Go.Proofs Abs
set_option maxRecDepth 100000

/-- A literal comes to its place. -/
def putI (c : List Int) (l : Int) : List Int := c.takeWhile (fun x => decide (varI x < varI l)) ++ l :: c.dropWhile (fun x => decide (varI x < varI l))
/-- The clause with the literals of two clauses. -/
def joinI : List Int → List Int → Option (List Int)
  | a, [] => some a
  | a, x :: r => if a.any (· == IntKind.i64.wrap (0 - x)) then none else joinI (if a.any (· == x) then a else putI a x) r
def optL (o : Option (List Int)) : List Int := match o with | some c => c | none => []
/-- The resolvent of two clauses. -/
def resolveI (a b : List Int) (v : Int) : Option (List Int) :=
  if (a.any (· == v) && b.any (· == IntKind.i64.wrap (0 - v))) = true then joinI (a.filter fun l => varI l != v) (b.filter fun l => varI l != v) else none
end Abs.Y
