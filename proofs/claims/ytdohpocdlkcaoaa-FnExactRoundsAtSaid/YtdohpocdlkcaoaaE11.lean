/- What functions of this program compute, over plain data. No condition. -/
import Derived.Test.YtdohpocdlkcaoaaV1c
import Derived.Test.YtdohpocdlkcaoaaE5
set_option linter.all false
namespace Abs.Y
open Go Go.Proofs Abs
open Nat renaming reduceEqDiff -> Qa, reduceLT -> Qb, reduceAdd -> Qc, reduceMul -> Qd, reduceSub -> Qe, reduceLeDiff -> Qf, reduceSubDiff -> Qg, reduceBEq -> Qh
open Bool renaming not_eq_true' -> Ba, not_eq_false' -> Bb, and_eq_true -> Bc, or_eq_true -> Bd, or_eq_false_iff -> Be
open Int renaming ofNat_lt -> Ia, ofNat_le -> Ib, not_lt -> Ic, not_le -> Ie
open Decidable renaming not_not -> Da
set_option maxRecDepth 100000

theorem good_below {v : Int} {cs : List (List Int)} {w : Int} (h : goodN v cs w=true) : ∀ c ∈ cs,Below v.toNat c:=by
 simp only [goodN,Bc,decide_eq_true_eq] at h
 obtain ⟨⟨h1,h2⟩,h3⟩:=h
 simp only [okCnf,Bc,decide_eq_true_eq,List.all_eq_true] at h1
 obtain ⟨⟨h4,h5⟩,h6⟩:=h1
 intro c hc x hx
 have h8:=h6 c hc
 simp only [okClause,Bc,decide_eq_true_eq] at h8
 obtain ⟨j,hj,rfl⟩:=List.getElem_of_mem hx
 have h9:=(h8.2 j hj).1
 simp only [List.getD_eq_getElem?_getD,List.getElem?_eq_getElem hj,Option.getD_some] at h9
 omega
end Abs.Y

namespace Abs.Y
open Go Go.Proofs Abs
open Nat renaming reduceEqDiff -> Qa, reduceLT -> Qb, reduceAdd -> Qc, reduceMul -> Qd, reduceSub -> Qe, reduceLeDiff -> Qf, reduceSubDiff -> Qg, reduceBEq -> Qh
open Bool renaming not_eq_true' -> Ba, not_eq_false' -> Bb, and_eq_true -> Bc, or_eq_true -> Bd, or_eq_false_iff -> Be
open Int renaming ofNat_lt -> Ia, ofNat_le -> Ib, not_lt -> Ic, not_le -> Ie
open Decidable renaming not_not -> Da
set_option maxRecDepth 100000

def cmpA {α : Type} (z : α) (f : α->List Int) (l : List α) : Nat->List α
 | 0 => []
 | i + 1 => if i=0∨f (l.getD i z) ≠ f (l.getD (i - 1) z) then cmpA z f l i++[l.getD i z] else cmpA z f l i
section
variable {α : Type} {z : α} {f : α->List Int} {l : List α}
end
end Abs.Y
