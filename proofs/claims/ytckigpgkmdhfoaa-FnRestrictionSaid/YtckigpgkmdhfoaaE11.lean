/- What functions of this program compute, over plain data. No condition. -/
import Derived.Test.YtckigpgkmdhfoaaAbsShelf2
import Derived.Test.YtckigpgkmdhfoaaAbsReg7
import Derived.Test.YtckigpgkmdhfoaaAbsBox
import Derived.Lib.RowBridge
set_option linter.all false
open Nat renaming reduceEqDiff -> Qa, reduceLT -> Qb, reduceAdd -> Qc, reduceMul -> Qd, reduceSub -> Qe, reduceLeDiff -> Qf, reduceSubDiff -> Qg, reduceBEq -> Qh
open Bool renaming not_eq_true' -> Ba, not_eq_false' -> Bb, and_eq_true -> Bc, or_eq_true -> Bd, or_eq_false_iff -> Be
open Int renaming ofNat_lt -> Ia, ofNat_le -> Ib, not_lt -> Ic, not_le -> Ie
open Decidable renaming not_not -> Da
namespace Abs.Y
open Go Go.Proofs Abs Go.Sort Go.Shelf Go.Lib Go.RowKit
set_option maxRecDepth 100000

def sortC (cs : List (List Int)) : List (List Int):=cs.mergeSort leC
def cfC (cs : List (List Int)) (i j : Nat) : Int:=cmpCI (cs.getD i []) (cs.getD j [])
def zTg : Tg:=(.slice none 0 0,[])
def srtIx (cs : List (List Int)) (L : Nat) : List Nat:=(pdq (ltOf (cfC cs)) (Array.range cs.length) 0 cs.length L true true).toList
def srtT (ps : List Tg) (L : Nat) : List Tg:=(srtIx (ps.map (·.2)) L).map fun i => ps.getD i zTg
end Abs.Y

namespace Abs.Y
open Go Go.Proofs Abs Go.Lib
set_option maxRecDepth 100000

end Abs.Y

namespace Abs.Y
open Go Go.Proofs Abs
set_option maxRecDepth 100000

def cmpA {α : Type} (z : α) (f : α->List Int) (l : List α) : Nat->List α
 | 0 => []
 | i + 1 => if i=0∨f (l.getD i z) ≠ f (l.getD (i - 1) z) then cmpA z f l i++[l.getD i z] else cmpA z f l i
section
variable {α : Type} {z : α} {f : α->List Int} {l : List α}
end
end Abs.Y
