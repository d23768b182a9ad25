/- What functions of this program compute, over plain data. No condition. -/
import Derived.Test.YtdohpocdlkcaoaaG1
import Derived.Test.YtdohpocdlkcaoaaL3
set_option linter.all false
namespace Abs.Y
open Go Go.Proofs Abs
open Nat renaming reduceEqDiff -> Qa, reduceLT -> Qb, reduceAdd -> Qc, reduceMul -> Qd, reduceSub -> Qe, reduceLeDiff -> Qf, reduceSubDiff -> Qg, reduceBEq -> Qh
open Bool renaming not_eq_true' -> Ba, not_eq_false' -> Bb, and_eq_true -> Bc, or_eq_true -> Bd, or_eq_false_iff -> Be
open Int renaming ofNat_lt -> Ia, ofNat_le -> Ib, not_lt -> Ic, not_le -> Ie
open Decidable renaming not_not -> Da
set_option maxRecDepth 100000

def cmpI (x y : Int) : Int:=if x < y then -1 else if y < x then 1 else 0
def orI (x y : Int) : Int:=if x ≠ 0 then x else y
end Abs.Y

namespace Abs.Y
open Go Go.Proofs Abs
open Nat renaming reduceEqDiff -> Qa, reduceLT -> Qb, reduceAdd -> Qc, reduceMul -> Qd, reduceSub -> Qe, reduceLeDiff -> Qf, reduceSubDiff -> Qg, reduceBEq -> Qh
open Bool renaming not_eq_true' -> Ba, not_eq_false' -> Bb, and_eq_true -> Bc, or_eq_true -> Bd, or_eq_false_iff -> Be
open Int renaming ofNat_lt -> Ia, ofNat_le -> Ib, not_lt -> Ic, not_le -> Ie
open Decidable renaming not_not -> Da
set_option maxRecDepth 100000

def cmpLI (a b : Int) : Int:=orI (cmpI (absI a) (absI b)) (cmpI b a)
def lexI : List Int->List Int->Int
 | [],[] => 0
 | [],_ :: _ => -1
 | _ :: _,[] => 1
 | x :: r,y :: s => if cmpLI x y ≠ 0 then cmpLI x y else lexI r s
def cmpCI (a b : List Int) : Int:=orI (cmpI a.length b.length) (lexI a b)
def Sm (c : List Int) : Prop:=∀ x ∈ c,-4611686018427387900<=x∧x<=4611686018427387900
def befI (a b : List Int) : Bool:=decide (cmpCI a b < 0)
end Abs.Y

namespace Abs.Y
open Go Go.Proofs Abs
open Nat renaming reduceEqDiff -> Qa, reduceLT -> Qb, reduceAdd -> Qc, reduceMul -> Qd, reduceSub -> Qe, reduceLeDiff -> Qf, reduceSubDiff -> Qg, reduceBEq -> Qh
open Bool renaming not_eq_true' -> Ba, not_eq_false' -> Bb, and_eq_true -> Bc, or_eq_true -> Bd, or_eq_false_iff -> Be
open Int renaming ofNat_lt -> Ia, ofNat_le -> Ib, not_lt -> Ic, not_le -> Ie
open Decidable renaming not_not -> Da
set_option maxRecDepth 100000

structure At (list : List (List Int)) (c : List Int) (k : Nat) : Prop where
 le : k<=list.length
 lo : ∀ j,j < k->befI (list.getD j []) c=true
 hi : ∀ j,k<=j->j < list.length->befI (list.getD j []) c=false
end Abs.Y

namespace Abs.Y
open Go Go.Proofs Abs
open Nat renaming reduceEqDiff -> Qa, reduceLT -> Qb, reduceAdd -> Qc, reduceMul -> Qd, reduceSub -> Qe, reduceLeDiff -> Qf, reduceSubDiff -> Qg, reduceBEq -> Qh
open Bool renaming not_eq_true' -> Ba, not_eq_false' -> Bb, and_eq_true -> Bc, or_eq_true -> Bd, or_eq_false_iff -> Be
open Int renaming ofNat_lt -> Ia, ofNat_le -> Ib, not_lt -> Ic, not_le -> Ie
open Decidable renaming not_not -> Da
set_option maxRecDepth 100000

def keyI (x : Int) : Int:=if x < 0 then -2 * x + 1 else 2 * x
def lexB : List Int->List Int->Bool
 | x :: r,y :: s => decide (keyI x < keyI y) || (decide (x=y) && lexB r s)
 | _,_ => false
def Srt (l : List (List Int)) : Prop:=l.Pairwise (fun a b => befI a b=true)∧∀ x ∈ l,Sm x
end Abs.Y
