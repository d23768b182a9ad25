/- What functions of this program compute, over plain data. No condition. -/
import Derived.Test.YtckigpgkmdhfoaaE3
import Derived.Test.YtckigpgkmdhfoaaAbsJoin
import Derived.Test.YtckigpgkmdhfoaaChecked
import Derived.Shelf.SlSortCmp.Whole1
import Derived.Shelf.Lay
import Derived.Ground.SlsfProg
import Derived.Test.YtckigpgkmdhfoaaAbsBox
import Derived.Test.YtckigpgkmdhfoaaAbsReg7
import Derived.Shelf.SlicesE.Delete
set_option linter.all false
namespace Abs.Y
open Go Go.Proofs Abs
open Nat renaming reduceEqDiff -> Qa, reduceLT -> Qb, reduceAdd -> Qc, reduceMul -> Qd, reduceSub -> Qe, reduceLeDiff -> Qf, reduceSubDiff -> Qg, reduceBEq -> Qh
open Bool renaming not_eq_true' -> Ba, not_eq_false' -> Bb, and_eq_true -> Bc, or_eq_true -> Bd, or_eq_false_iff -> Be
open Int renaming ofNat_lt -> Ia, ofNat_le -> Ib, not_lt -> Ic, not_le -> Ie
open Decidable renaming not_not -> Da
set_option maxRecDepth 100000

def plI (list : List (List Int)) (c : List Int) : Nat:=(list.takeWhile fun x => befI x c).length
def insI (list : List (List Int)) (c : List Int) : List (List Int):=if plI list c < list.length∧list.getD (plI list c) []=c then list else list.take (plI list c)++c :: list.drop (plI list c)
end Abs.Y

namespace Abs.Y
open Go Go.Proofs Abs
open Nat renaming reduceEqDiff -> Qa, reduceLT -> Qb, reduceAdd -> Qc, reduceMul -> Qd, reduceSub -> Qe, reduceLeDiff -> Qf, reduceSubDiff -> Qg, reduceBEq -> Qh
open Bool renaming not_eq_true' -> Ba, not_eq_false' -> Bb, and_eq_true -> Bc, or_eq_true -> Bd, or_eq_false_iff -> Be
open Int renaming ofNat_lt -> Ia, ofNat_le -> Ib, not_lt -> Ic, not_le -> Ie
open Decidable renaming not_not -> Da
set_option maxRecDepth 100000

def leC (x y : List Int) : Bool:=!(befI y x)
end Abs.Y

namespace Abs.Y
open Go Go.Proofs Abs
open Nat renaming reduceEqDiff -> Qa, reduceLT -> Qb, reduceAdd -> Qc, reduceMul -> Qd, reduceSub -> Qe, reduceLeDiff -> Qf, reduceSubDiff -> Qg, reduceBEq -> Qh
open Bool renaming not_eq_true' -> Ba, not_eq_false' -> Bb, and_eq_true -> Bc, or_eq_true -> Bd, or_eq_false_iff -> Be
open Int renaming ofNat_lt -> Ia, ofNat_le -> Ib, not_lt -> Ic, not_le -> Ie
open Decidable renaming not_not -> Da
set_option maxRecDepth 100000

def atI (list : List (List Int)) (c : List Int) : Int:=if plI list c < list.length∧list.getD (plI list c) []=c then (plI list c : Nat) else -1
end Abs.Y

namespace Go.Proofs
open Go.Shelf Go.RowKit Go.Lib Go.Sort
end Go.Proofs

namespace Abs
open Go Go.RowKit

mutual
def AV.mfz (j : Nat) (x : D) : AV->AV
 | .sl i => if i=j then .undef else .sl i
 | .p i o => if i=j then .undef else .p i o
 | .pe i k n o => if i=j then .undef else .pe i k n o
 | .mq i => if i=j then .d x else .mq i
 | .sf i k l => if i=j then .undef else .sf i k l
 | .vw i q n k => if q=j then .undef else .vw i q n k
 | .pv i q k n o => if q=j then .undef else .pv i q k n o
 | .tup xs => .tup (AV.mfzL j x xs)
 | .st xs => .st (AV.mfzL j x xs)
 | .fn f cs => .fn f (AV.mfzL j x cs)
 | y => y
def AV.mfzL (j : Nat) (x : D) : List AV->List AV
 | [] => []
 | y :: r => y.mfz j x :: AV.mfzL j x r
end
def mfzS (j : Nat) (x : D) : List (Nat × AV)->List (Nat × AV)
 | [] => []
 | (k,v) :: r => (k,v.mfz j x) :: mfzS j x r
def AO.mfz (j : Nat) (x : D) : AO->AO
 | .box e cells => .box e (AV.mfzL j x cells)
 | .dp t xs (some (c,some d)) => .dp t xs (if d=j then some (c,none) else some (c,some d))
 | y => y
def mfzO (j : Nat) (x : D) : List (Nat × AO)->List (Nat × AO)
 | [] => []
 | (k,v) :: r => if k=j then mfzO j x r else (k,v.mfz j x) :: mfzO j x r
end Abs

namespace Abs
open Go Go.RowKit

theorem Wk.cutOn {N : Nat} {S : List (Nat × AV)} {O : List (Nat × AO)} : Wk N ⟨S,O⟩ ⟨ins cutKey .undef S,O⟩:=fun Z β φ B M w0 a w h =>
 ⟨β,φ,h.nd,h.size,fun i av hi => by
  have hi : lk i (ins cutKey .undef S)=some av:=hi
  rw [lk_ins] at hi
  split at hi
  . cases hi; exact .undef _
  . exact h.slots i av hi,h.objs,h.own,h.disj,h.fr,h.z⟩
end Abs

namespace Abs
open Go Go.RowKit Go.Sort Go.Proofs Go.Shelf

def D.one : D->Bool
 | .int _ _ => true
 | .bool _ => true
 | .str _ => true
 | .slice _ => true
 | .ptr _ => true
 | .nilptr => true
 | .tag _ _ => true
 | _ => false
def mkR (zv : Value) (xs : List Value) (i : Nat) : Value:=xs.getD i zv
section
variable {α : Type} [Inhabited α] {enc : α->Value}
end
structure Writ (es es' : List D) (d : Array Nat) : Prop where
 le : d.size<=es.length
 le' : es'.length<=d.size
 lt : ∀ i ∈ d.toList.take es'.length,i < es.length
 eq : (d.toList.take es'.length).map (fun i => es.getD i .nilptr)=es'

end Abs
