/- What functions of this program compute, over plain data. No condition. -/
import Derived.Test.YtndjinajjejmlaaG5c
import Derived.Test.YtndjinajjejmlaaK2
import Derived.Test.YtndjinajjejmlaaAbsLaws
set_option linter.all false
open Nat renaming reduceEqDiff -> Qa, reduceLT -> Qb, reduceAdd -> Qc, reduceMul -> Qd, reduceSub -> Qe, reduceLeDiff -> Qf, reduceSubDiff -> Qg, reduceBEq -> Qh
open Bool renaming not_eq_true' -> Ba, not_eq_false' -> Bb, and_eq_true -> Bc, or_eq_true -> Bh, or_eq_false_iff -> Be
open Int renaming ofNat_lt -> Ia, ofNat_le -> Ib, not_lt -> Ic, not_le -> Ie
open Decidable renaming not_not -> Da
namespace Abs.Y
open Go Go.Proofs Abs Go.Sort Go.Lib
set_option maxRecDepth 100000

def Good (l : List Int) : Prop:=l.Pairwise (fun x y => x.natAbs < y.natAbs)∧∀ x ∈ l,x ≠ 0∧x.natAbs<=12
theorem good_of_ok {v : Int} {c : List Int} (h : okClause v c=true) : Good c:=by
 simp only [okClause,Bc,decide_eq_true_eq] at h
 obtain ⟨hv,hc⟩:=h
 rw [okVars_iff] at hv
 have hlt : ∀ j,j < c.length->∀ i,i < j->(c.getD i 0).natAbs < (c.getD j 0).natAbs:=by
  intro j
  induction j with
  | zero => intro _ i hi; omega
  | succ j ih =>
    intro hj i hi
    have h1:=(hc (j + 1) hj).2 (by omega)
    rw [Nat.add_sub_cancel] at h1
    by_cases e : i=j
    . subst e; exact h1
    . have:=ih (by omega) i (by omega); omega
 refine ⟨List.pairwise_iff_getElem.2 fun i j hi hj hij => ?_,fun x hx => ?_⟩
 . have:=hlt j hj i hij
   simpa [List.getD_eq_getElem?_getD,hi,hj] using this
 . obtain ⟨j,hj,rfl⟩:=mem_getD 0 hx
   have:=(hc j hj).1
   omega
end Abs.Y

namespace Abs.Y
open Go Go.Proofs Abs
set_option maxRecDepth 100000


end Abs.Y

namespace Abs.Y
open Go Go.Proofs Abs
set_option maxRecDepth 100000

def correctI (v : Int) (cs : List (List Int)) (steps : List Step) (k : Nat) : Bool :=
 okClause v (steps.getD k Step.z).c &&
 (if (steps.getD k Step.z).l = -1 then decide ((steps.getD k Step.z).p = 0) && (decide (0 <= (steps.getD k Step.z).r) && decide ((steps.getD k Step.z).r <= cs.length - 1)) && decide (cs.getD (steps.getD k Step.z).r.toNat [] = (steps.getD k Step.z).c)
  else okEarlier v steps k (steps.getD k Step.z).l &&
   (if (steps.getD k Step.z).r = -1 then decide ((steps.getD k Step.z).p = 0) && subI (steps.getD (steps.getD k Step.z).l.toNat Step.z).c (steps.getD k Step.z).c
    else (okEarlier v steps k (steps.getD k Step.z).r && (decide (1<=(steps.getD k Step.z).p) && decide ((steps.getD k Step.z).p<=v))) &&
     ((resolveI (steps.getD (steps.getD k Step.z).l.toNat Step.z).c (steps.getD (steps.getD k Step.z).r.toNat Step.z).c (steps.getD k Step.z).p).isSome &&
       decide (optL (resolveI (steps.getD (steps.getD k Step.z).l.toNat Step.z).c (steps.getD (steps.getD k Step.z).r.toNat Step.z).c (steps.getD k Step.z).p)=(steps.getD k Step.z).c))))
end Abs.Y

namespace Abs.Y
open Go Go.Proofs Abs
set_option maxRecDepth 100000

end Abs.Y

namespace Abs.Y
open Go Go.Proofs Abs
set_option maxRecDepth 100000

def wrongI (v : Int) (cs : List (List Int)) (steps : List Step) : Int:=idxR (fun k => !correctI v cs steps k) steps.length
structure Sz (cs : List (List Int)) (steps : List Step) : Prop where
 hl : steps.length<=1048576
 hs : ∀ j,(steps.getD j Step.z).c.length<=1048576
 hcl : cs.length<=1048576
 hc : ∀ j,(cs.getD j []).length<=1048576
def askedI (v : Int) (cs : List (List Int)) (steps : List Step) : Bool:=decide (steps.length<=200) && okCnf v cs
def goodI (v : Int) (cs : List (List Int)) (steps : List Step) : Bool:=askedI v cs steps && decide (wrongI v cs steps < 0)
end Abs.Y

namespace Abs.Y
open Go Go.Proofs Abs
set_option maxRecDepth 100000

def stepF (s : Step) (left : Int) : Int:=szI s.c left
end Abs.Y

namespace Abs.Y
open Go Go.Proofs Abs
set_option maxRecDepth 100000

def cmpI (x y : Int) : Int:=if x < y then -1 else if y < x then 1 else 0
def orI (x y : Int) : Int:=if x ≠ 0 then x else y
end Abs.Y

namespace Abs.Y
open Go Go.Proofs Abs
set_option maxRecDepth 100000

def cmpLI (a b : Int) : Int:=orI (cmpI (absI a) (absI b)) (cmpI b a)
def lexI : List Int->List Int->Int
 | [],[] => 0
 | [],_ :: _ => -1
 | _ :: _,[] => 1
 | x :: r,y :: s => if cmpLI x y ≠ 0 then cmpLI x y else lexI r s
def cmpCI (a b : List Int) : Int:=orI (cmpI a.length b.length) (lexI a b)
def Sm (c : List Int) : Prop:=∀ x ∈ c,-4611686018427387900<=x∧x<=4611686018427387900
def befI (a b : List Int) : Bool:=decide (cmpCI a b < 0)
end Abs.Y

namespace Abs.Y
open Go Go.Proofs Abs
set_option maxRecDepth 100000

structure At (list : List (List Int)) (c : List Int) (k : Nat) : Prop where
 le : k<=list.length
 lo : ∀ j,j < k->befI (list.getD j []) c=true
 hi : ∀ j,k<=j->j < list.length->befI (list.getD j []) c=false
end Abs.Y

namespace Abs.Y
open Go Go.Proofs Abs
set_option maxRecDepth 100000

def keyI (x : Int) : Int:=if x < 0 then -2 * x + 1 else 2 * x
def lexB : List Int->List Int->Bool
 | x :: r,y :: s => decide (keyI x < keyI y) || (decide (x=y) && lexB r s)
 | _,_ => false
def Srt (l : List (List Int)) : Prop:=l.Pairwise (fun a b => befI a b=true)∧∀ x ∈ l,Sm x
end Abs.Y

namespace Abs.Y
open Go Go.Proofs Abs
set_option maxRecDepth 100000

def tlit (x : Nat) (l : Int) : Bool:=x.testBit (l.natAbs - 1) == decide (0 < l)
def tcl (x : Nat) (c : List Int) : Bool:=c.any (tlit x)
def tmod (cs : List (List Int)) (x : Nat) : Bool:=!(cs.any fun c => !(tcl x c))
def tsat (u : Nat) (cs : List (List Int)) : Bool:=(List.range (2 ^ u)).any (tmod cs)
def timp (u : Nat) (cs : List (List Int)) (c : List Int) : Bool:=!(tsat u (cs++c.map fun l => [-l]))
theorem tlit_neg {x : Nat} {l : Int} (h : l ≠ 0) : tlit x (-l)=!(tlit x l):=by
 unfold tlit
 rw [Int.natAbs_neg]
 by_cases h0 : 0 < l
 . rw [decide_eq_false (show ¬ 0 < -l by omega),decide_eq_true h0]
   cases x.testBit (l.natAbs - 1)<;>rfl
 . rw [decide_eq_true (show 0 < -l by omega),decide_eq_false h0]
   cases x.testBit (l.natAbs - 1)<;>rfl
theorem tmod_iff {x : Nat} {cs : List (List Int)} : tmod cs x=true↔∀ c ∈ cs,tcl x c=true:=by
 simp only [tmod,Ba,List.any_eq_false,Ba,Bool.not_eq_false]
theorem getD_eq {c : List Int} {j : Nat} (hj : j < c.length) : c.getD j 0=c[j]:=by simp [List.getD_eq_getElem?_getD,hj]
theorem ok_of_good {u : Int} {c : List Int} (hu : okVars u=true) (g : Good c) (hb : ∀ l ∈ c,(l.natAbs : Int)<=u) : okClause u c=true:=by
 simp only [okClause,Bc,decide_eq_true_eq]
 refine ⟨hu,fun j hj => ?_⟩
 have hm : c.getD j 0 ∈ c:=getD_mem hj
 have h1:=(g.2 _ hm).1
 have h2:=hb _ hm
 refine ⟨⟨h1,by omega,by omega⟩,fun h0 => ?_⟩
 have:=List.pairwise_iff_getElem.1 g.1 (j - 1) j (by omega) hj (by omega)
 rwa [← getD_eq,← getD_eq] at this
def ofI (l : List Int) : Option (List Int):=l.foldl (fun o x => o.bind fun a => joinI a [x]) (some [])
end Abs.Y

namespace Abs.Y
open Go Go.Proofs Abs
set_option maxRecDepth 100000

def resOK (u : Int) (a b : List Int) (v : Int) : Bool:=okClause u a && (okClause u b && (decide (1<=v) && decide (v<=u)))
def resI (u : Int) (a b : List Int) (v : Int) : List Int:=if resOK u a b v then optL (resolveI a b v) else []
def resB (u : Int) (a b : List Int) (v : Int) : Bool:=resOK u a b v && (resolveI a b v).isSome
end Abs.Y
