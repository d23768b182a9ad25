/- What functions of this program compute, over plain data. No condition. -/
import Derived.Test.YtckigpgkmdhfoaaV2
import Derived.Test.YtckigpgkmdhfoaaCP1
import Derived.Test.YtckigpgkmdhfoaaG8
import Derived.Shelf.SlSortCmp.Whole1
import Derived.Shelf.SlicesE.Delete
import Derived.Test.YtckigpgkmdhfoaaW9
import Derived.Test.YtckigpgkmdhfoaaST2
import Derived.Lib.RowBridge
set_option linter.all false
open Nat renaming reduceEqDiff -> Qa, reduceLT -> Qb, reduceAdd -> Qc, reduceMul -> Qd, reduceSub -> Qe, reduceLeDiff -> Qf, reduceSubDiff -> Qg, reduceBEq -> Qh
open Bool renaming not_eq_true' -> Ba, not_eq_false' -> Bb, and_eq_true -> Bc, or_eq_true -> Bh, or_eq_false_iff -> Be
open Int renaming ofNat_lt -> Ia, ofNat_le -> Ib, not_lt -> Ic, not_le -> Ie
open Decidable renaming not_not -> Da
namespace Abs
open Go Go.RowKit

mutual
def AV.mfz (j : Nat) (x : D) : AV->AV
 | .sl i => if i=j then .undef else .sl i
 | .p i o => if i=j then .undef else .p i o
 | .pe i k n o => if i=j then .undef else .pe i k n o
 | .mq i => if i=j then .d x else .mq i
 | .sf i k l => if i=j then .undef else .sf i k l
 | .vw i q n k => if q=j then .undef else .vw i q n k
 | .pv i q k n o => if q=j then .undef else .pv i q k n o
 | .tup xs => .tup (AV.mfzL j x xs)
 | .st xs => .st (AV.mfzL j x xs)
 | .fn f cs => .fn f (AV.mfzL j x cs)
 | y => y
def AV.mfzL (j : Nat) (x : D) : List AV->List AV
 | [] => []
 | y :: r => y.mfz j x :: AV.mfzL j x r
end
def mfzS (j : Nat) (x : D) : List (Nat × AV)->List (Nat × AV)
 | [] => []
 | (k,v) :: r => (k,v.mfz j x) :: mfzS j x r
def AO.mfz (j : Nat) (x : D) : AO->AO
 | .box e cells => .box e (AV.mfzL j x cells)
 | .dp t xs (some (c,some d)) => .dp t xs (if d=j then some (c,none) else some (c,some d))
 | y => y
def mfzO (j : Nat) (x : D) : List (Nat × AO)->List (Nat × AO)
 | [] => []
 | (k,v) :: r => if k=j then mfzO j x r else (k,v.mfz j x) :: mfzO j x r
end Abs

namespace Abs
open Go Go.RowKit

end Abs

namespace Abs
open Go Go.RowKit Go.Sort Go.Proofs Go.Shelf

def D.one : D->Bool
 | .int _ _ => true
 | .bool _ => true
 | .str _ => true
 | .slice _ => true
 | .ptr _ => true
 | .nilptr => true
 | .tag _ _ => true
 | _ => false
theorem Rd.one {S w x v} (hx : x.one=true) (h : Rd S w x v) : v.oneCell'=true:=by
 cases h<;>first | rfl | (rename_i h; cases h<;>rfl; done) | cases hx

def mkR (zv : Value) (xs : List Value) (i : Nat) : Value:=xs.getD i zv
section
variable {α : Type} [Inhabited α] {enc : α->Value}
end
structure Writ (es es' : List D) (d : Array Nat) : Prop where
 le : d.size<=es.length
 le' : es'.length<=d.size
 lt : ∀ i ∈ d.toList.take es'.length,i < es.length
 eq : (d.toList.take es'.length).map (fun i => es.getD i .nilptr)=es'

end Abs

namespace Abs.Y
open Go Go.Proofs Abs Go.Sort Go.Shelf Go.Lib Go.RowKit
set_option maxRecDepth 100000

def sortC (cs : List (List Int)) : List (List Int):=cs.mergeSort leC
def cfC (cs : List (List Int)) (i j : Nat) : Int:=cmpCI (cs.getD i []) (cs.getD j [])
def zTg : Tg:=(.slice none 0 0,[])
def srtIx (cs : List (List Int)) (L : Nat) : List Nat:=(pdq (ltOf (cfC cs)) (Array.range cs.length) 0 cs.length L true true).toList
def srtT (ps : List Tg) (L : Nat) : List Tg:=(srtIx (ps.map (·.2)) L).map fun i => ps.getD i zTg
end Abs.Y

namespace Abs.Y
open Go Go.Proofs Abs Go.Lib
set_option maxRecDepth 100000

end Abs.Y

namespace Abs.Y
open Go Go.Proofs Abs
set_option maxRecDepth 100000

def cmpA {α : Type} (z : α) (f : α->List Int) (l : List α) : Nat->List α
 | 0 => []
 | i + 1 => if i=0∨f (l.getD i z) ≠ f (l.getD (i - 1) z) then cmpA z f l i++[l.getD i z] else cmpA z f l i
section
variable {α : Type} {z : α} {f : α->List Int} {l : List α}
end
end Abs.Y
