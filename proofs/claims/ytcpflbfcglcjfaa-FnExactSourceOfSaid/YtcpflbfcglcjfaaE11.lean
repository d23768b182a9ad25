/- What functions of this program compute, over plain data. No condition. -/
import Derived.Test.YtcpflbfcglcjfaaM1
import Derived.Test.YtcpflbfcglcjfaaE5
set_option linter.all false
namespace Abs.Y
open Go Go.Proofs Abs
open Nat renaming reduceEqDiff -> Qa, reduceLT -> Qb, reduceAdd -> Qc, reduceMul -> Qd, reduceSub -> Qe, reduceLeDiff -> Qf, reduceSubDiff -> Qg, reduceBEq -> Qh
open Bool renaming not_eq_true' -> Ba, not_eq_false' -> Bb, and_eq_true -> Bc, or_eq_true -> Bd, or_eq_false_iff -> Be
open Int renaming ofNat_lt -> Ia, ofNat_le -> Ib, not_lt -> Ic, not_le -> Ie
open Decidable renaming not_not -> Da
set_option maxRecDepth 100000

def derG (v : Int) (cs : List (List Int)) : Bool:=goodN v cs 0
noncomputable def derAll (v : Int) (cs : List (List Int)) : List (List Int):=if derG v cs then closV cs 6 else []
noncomputable def derB (v : Int) (cs : List (List Int)) : Bool:=derG v cs && decide (((closV cs 6).length : Int)<=14)
noncomputable def derI (v : Int) (cs : List (List Int)) : List (List Int):=if derB v cs then closV cs 6 else []
end Abs.Y

namespace Abs.Y
open Go Go.Proofs Abs
open Nat renaming reduceEqDiff -> Qa, reduceLT -> Qb, reduceAdd -> Qc, reduceMul -> Qd, reduceSub -> Qe, reduceLeDiff -> Qf, reduceSubDiff -> Qg, reduceBEq -> Qh
open Bool renaming not_eq_true' -> Ba, not_eq_false' -> Bb, and_eq_true -> Bc, or_eq_true -> Bd, or_eq_false_iff -> Be
open Int renaming ofNat_lt -> Ia, ofNat_le -> Ib, not_lt -> Ic, not_le -> Ie
open Decidable renaming not_not -> Da
set_option maxRecDepth 100000

theorem sz_cnf {cs : List (List Int)} (h : ¬ szS szI cs 1048576 < 0) : cs.length<=1048576∧(∀ x ∈ cs,x.length<=1048576)∧∀ j,(cs.getD j []).length<=1048576:=by
 have l1:=szS_len (f:=szI) (a:=cs) (left:=1048576) (by omega)
 have x1 : ∀ x ∈ cs,x.length<=1048576:=fun x hx => by
  obtain ⟨y,h3,h4,h5⟩:=szS_each szI_szF (a:=cs) (left:=1048576) (by omega) x hx
  have:=szI_len h5; omega
 refine ⟨by omega,x1,fun j => ?_⟩
 by_cases hj : j < cs.length
 . exact x1 _ (getD_mem hj)
 . rw [List.getD_eq_getElem?_getD,List.getElem?_eq_none (by omega)]; simp
end Abs.Y

namespace Abs.Y
open Go Go.Proofs Abs
open Nat renaming reduceEqDiff -> Qa, reduceLT -> Qb, reduceAdd -> Qc, reduceMul -> Qd, reduceSub -> Qe, reduceLeDiff -> Qf, reduceSubDiff -> Qg, reduceBEq -> Qh
open Bool renaming not_eq_true' -> Ba, not_eq_false' -> Bb, and_eq_true -> Bc, or_eq_true -> Bd, or_eq_false_iff -> Be
open Int renaming ofNat_lt -> Ia, ofNat_le -> Ib, not_lt -> Ic, not_le -> Ie
open Decidable renaming not_not -> Da
set_option maxRecDepth 100000

def cmpA {α : Type} (z : α) (f : α->List Int) (l : List α) : Nat->List α
 | 0 => []
 | i + 1 => if i=0∨f (l.getD i z) ≠ f (l.getD (i - 1) z) then cmpA z f l i++[l.getD i z] else cmpA z f l i
section
variable {α : Type} {z : α} {f : α->List Int} {l : List α}
end
end Abs.Y
