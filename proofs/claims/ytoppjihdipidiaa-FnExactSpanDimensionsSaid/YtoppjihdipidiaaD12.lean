/- What functions of this program compute, as contracts over plain data, with what the proofs need of them. No condition. -/
import Derived.Test.YtoppjihdipidiaaE0
import Derived.Test.YtoppjihdipidiaaD5
import Derived.Test.YtoppjihdipidiaaC4
set_option linter.all false
namespace Abs.Y
open Go Go.Proofs Abs
open Nat (reduceEqDiff reduceLT reduceAdd reduceMul reduceSub reduceLeDiff reduceSubDiff)
set_option maxRecDepth 100000

section
variable {p : Int} {u : Nat} (hp : 1 < p ∧ p ≤ 5) (hu : u ≤ 6)
include hp hu
end
end Abs.Y

namespace Abs.Y
open Go Go.Proofs Abs
open Nat (reduceEqDiff reduceLT reduceAdd reduceMul reduceSub reduceLeDiff reduceSubDiff)
set_option maxRecDepth 100000

def degC (cs : List (List Int)) (list : List (List (Int × Int))) (k : Nat) : Int :=
  (List.range k).foldl (fun d i => if list.getD i [] = [] then d else max d (degT (list.getD i []) + ((cs.getD i []).length : Int))) 0
def certB (p v : Int) (cs : List (List Int)) (list : List (List (Int × Int))) : Bool := goodL p v cs list && decide (sumC p v.toNat cs list list.length = monoD v.toNat 0)
def certV (p v : Int) (cs : List (List Int)) (list : List (List (Int × Int))) : Int := if certB p v cs list then degC cs list list.length else 0
end Abs.Y

namespace Abs.Y
open Go Go.Proofs Abs
open Nat (reduceEqDiff reduceLT reduceAdd reduceMul reduceSub reduceLeDiff reduceSubDiff)
set_option maxRecDepth 100000

theorem getD_mapz {α β : Type} (f : α → β) (z : α) (z' : β) (l : List α) {i : Nat} (h : i < l.length) : (l.map f).getD i z' = f (l.getD i z) := by
  simp only [List.getD_eq_getElem?_getD, List.getElem?_map, List.getElem?_eq_getElem h, Option.map_some, Option.getD_some]
end Abs.Y

namespace Abs.Y
open Go Go.Proofs Abs
open Nat (reduceEqDiff reduceLT reduceAdd reduceMul reduceSub reduceLeDiff reduceSubDiff)
set_option maxRecDepth 100000

@[reducible] def echN (k0 k1 k2 : Nat) (p : Int) (u : Nat) (e : EchS) : List (Nat × AO) :=
  [(k2, .dp (some (92, 1)) (e.M.map D.ints) none), (k1, .arr 92 1 (e.R.map D.ints)), (k0, .box 147 [.d (.int .i64 p), .d (.int .i64 u), .sl k1, .sl k2, .d (.int .i64 (e.many : Nat))])]
section
variable {p : Int} {u : Nat} (hp : p = 2 ∨ p = 3 ∨ p = 5) (hu : u ≤ 6)
def echL (L : List (List Int)) : EchS := L.foldl (fun e a => addE p u e a) ⟨[], [], 0⟩
include hp hu
end
def okBar (p v : Int) (cs : List (List Int)) (d : Int) (list : List (List (Int × Int))) : Bool :=
  (((primeB p v && okCnf v cs) && degB d) && decide (list.length ≤ 64)) && list.all (isT p (2 ^ v.toNat))
def BarP (p v : Int) (cs : List (List Int)) (d : Int) (list : List (List (Int × Int))) : Prop :=
  okBar p v cs d list = true ∧ ∃ R, Ech p (2 ^ v.toNat) ldG R ∧ SpEq p (2 ^ v.toNat) R (list.map (dnT (2 ^ v.toNat))) ∧ Barr p v.toNat d cs (list.map (dnT (2 ^ v.toNat))) R
end Abs.Y
