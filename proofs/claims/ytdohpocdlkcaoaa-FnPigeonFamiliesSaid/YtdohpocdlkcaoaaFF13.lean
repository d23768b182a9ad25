/- What functions of this program compute, over plain data. No condition. -/
import Derived.Test.YtdohpocdlkcaoaaAbsLaws
import Derived.Test.YtdohpocdlkcaoaaFF12
set_option linter.all false
namespace Abs.Y
open Go Go.Proofs Abs
open Nat renaming reduceEqDiff -> Qa, reduceLT -> Qb, reduceAdd -> Qc, reduceMul -> Qd, reduceSub -> Qe, reduceLeDiff -> Qf, reduceSubDiff -> Qg, reduceBEq -> Qh
open Bool renaming not_eq_true' -> Ba, not_eq_false' -> Bb, and_eq_true -> Bc, or_eq_true -> Bd, or_eq_false_iff -> Be
open Int renaming ofNat_lt -> Ia, ofNat_le -> Ib, not_lt -> Ic, not_le -> Ie
open Decidable renaming not_not -> Da
set_option maxRecDepth 100000

theorem ff_cnf : ∀ n : Nat,n < 4->1<=n->okCnf ((n : Int) * (n + 1)) (funS n)=true∧okCnf ((n : Int) * (n + 1)) (ontoS n)=true∧okCnf ((n : Int) * (n + 1)) (cnfS n)=true∧((ontoS n).all fun c => decide (c.length<=4))=true∧((funS n).all fun c => decide (c.length<=4))=true∧((cnfS n).all fun c => decide (c.length<=4))=true:=by decide +kernel
theorem ff_sat : ∀ n : Nat,n < 4->1<=n->tsat (n * (n + 1)) (funS n)=false∧tsat (n * (n + 1)) (ontoS n)=false:=by decide +kernel
def maps (n : Nat) : Nat->List (List Int)
 | 0 => [[]]
 | k + 1 => (List.range (n + 1)).flatMap fun (j : Nat) => (maps n k).map fun m => (j : Int) :: m
theorem maps_all (n : Nat) : ∀ h : List Int,(∀ x ∈ h,0<=x∧x<=n)->h ∈ maps n h.length
 | [],_ => by simp [maps]
 | x :: l, hx => by
   have h1:=maps_all n l fun y hy => hx y (by simp [hy])
   have h2:=hx x (by simp)
   rw [List.length_cons,maps]
   refine List.mem_flatMap.2 ⟨x.toNat,List.mem_range.2 (by omega),List.mem_map.2 ⟨l,h1,?_⟩⟩
   rw [Int.toNat_of_nonneg h2.1]
def prJ (h : List Int) (i : Nat) (p : Int) : Nat->Int
 | 0 => p
 | j + 1 => if 0 < h.getD i 0∧h.getD i 0=h.getD j 0 then prJ h i p j + 1 else prJ h i p j
def prI (h : List Int) : Nat->Int
 | 0 => 0
 | i + 1 => prJ h i (prI h i) i
def noI (h : List Int) : Nat->Int
 | 0 => 0
 | i + 1 => if h.getD i 0=0 then noI h i + 1 else noI h i
def mapF (n : Nat) (h : List Int) : Bool:=decide (bmB n h (n + 1) < 2 ^ (n * (n + 1))) && okClause ((n : Int) * (n + 1)) (totI (bmB n h (n + 1)) (n * (n + 1))) && decide (((fcI (funS n) (totI (bmB n h (n + 1)) (n * (n + 1))) (funS n).length).length : Int)=prI h (n + 1) + noI h (n + 1))
theorem ff_maps : ∀ n : Nat,n < 4->1<=n->((maps n (n + 1)).all (mapF n))=true:=by decide +kernel
def plF (n i j : Nat) : Bool:=okClause ((n : Int) * (n + 1)) (placeP n i j) && decide (((rsI (cnfS n) (placeP n i j) (cnfS n).length).length : Int)=(n : Int) + ((n : Int) - 1) * n * ((n : Int) - 1) / 2) && okCnf ((n : Int) * (n + 1)) (rsI (cnfS n) (placeP n i j) (cnfS n).length) && !(tsat (n * (n + 1)) (rsI (cnfS n) (placeP n i j) (cnfS n).length)) && ((rsI (cnfS n) (placeP n i j) (cnfS n).length).all fun c => decide (c.length<=4)) && decide ((placeP n i j).length<=12)
theorem ff_place : ∀ n : Nat,n < 4->1<=n->∀ i,i < n + 1->∀ j,j < n->plF n (i + 1) (j + 1)=true:=by decide +kernel
end Abs.Y
