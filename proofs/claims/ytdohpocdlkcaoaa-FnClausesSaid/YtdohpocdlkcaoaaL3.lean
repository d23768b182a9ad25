/- What functions of this program compute, over plain data. No condition. -/
import Derived.Test.YtdohpocdlkcaoaaAbsRow
import Derived.Test.YtdohpocdlkcaoaaL1
import Derived.Test.YtdohpocdlkcaoaaAbsLaws
set_option linter.all false
namespace Abs
open Go Go.RowKit

theorem bare_ints {k : IntKind} (xs : List Int) : (∀ x ∈ flat (List.map (D.int k) xs),x.bare=true)=True:=by
 refine eq_true fun x hx => ?_
 obtain ⟨y,hy,hc⟩:=List.mem_flatMap.1 hx
 obtain ⟨z,_,rfl⟩:=List.mem_map.1 hy
 have : x=.int k z:=by simpa [D.cells] using hc
 subst this; rfl
attribute [go_sem] bare_ints
theorem retM_d {P t st x u ob} (h : lk t st.s=some (.d x)) (ho : lk 0 st.o=some ob) (hk : lk 1000000000 st.s=some (.hdr 0 (u 0))) (hx : x.plain=true) (hp : ob.plain) (hr : ob.ren (fun j => j)=ob) :
 retM P [.tmp t] u [0] false (.d x) [(0,ob)] .ret st:=by
 simp only [retM,resV,h]
 refine ⟨trivial,⟨fun j => j,rfl,by simpa [hr] using ho,by simp,⟨rfl,hk,trivial⟩⟩,.inr ⟨hx,hp,trivial⟩⟩
def cntI (k : Int) : Nat->List Int
 | 0 => []
 | n + 1 => k :: cntI (k + 1) n
end Abs
namespace Abs
end Abs
namespace Abs
def cntSS : List (List Int)->Int->List (List Int)
 | [],_ => []
 | x :: r,k => cntI k x.length :: cntSS r (k + x.length)
def lenSS : List (List Int)->Nat
 | [] => 0
 | x :: r => x.length + lenSS r
def offSS (a : List (List Int)) (k : Int) (i : Nat) : Int:=k + (lenSS (a.take i) : Nat)
def lenST : List Step->Nat
 | [] => 0
 | s :: r => s.c.length + 3 + lenST r
def cntST1 (s : Step) (k : Int) : Step:=⟨cntI k s.c.length,k + s.c.length,k + s.c.length + 1,k + s.c.length + 2⟩
def cntST : List Step->Int->List Step
 | [],_ => []
 | s :: r,k => cntST1 s k :: cntST r (k + s.c.length + 3)
def offST (a : List Step) (k : Int) (i : Nat) : Int:=k + (lenST (a.take i) : Nat)
end Abs
namespace Abs
end Abs
namespace Abs
end Abs
namespace Abs
end Abs
namespace Abs
open Go Go.RowKit
end Abs

namespace Abs.Y
open Go Go.Proofs Abs
open Nat renaming reduceEqDiff -> Qa, reduceLT -> Qb, reduceAdd -> Qc, reduceMul -> Qd, reduceSub -> Qe, reduceLeDiff -> Qf, reduceSubDiff -> Qg, reduceBEq -> Qh
open Bool renaming not_eq_true' -> Ba, not_eq_false' -> Bb, and_eq_true -> Bc, or_eq_true -> Bd, or_eq_false_iff -> Be
open Int renaming ofNat_lt -> Ia, ofNat_le -> Ib, not_lt -> Ic, not_le -> Ie
open Decidable renaming not_not -> Da
set_option maxRecDepth 100000


end Abs.Y

namespace Abs.Y
open Go Go.Proofs Abs
open Nat renaming reduceEqDiff -> Qa, reduceLT -> Qb, reduceAdd -> Qc, reduceMul -> Qd, reduceSub -> Qe, reduceLeDiff -> Qf, reduceSubDiff -> Qg, reduceBEq -> Qh
open Bool renaming not_eq_true' -> Ba, not_eq_false' -> Bb, and_eq_true -> Bc, or_eq_true -> Bd, or_eq_false_iff -> Be
open Int renaming ofNat_lt -> Ia, ofNat_le -> Ib, not_lt -> Ic, not_le -> Ie
open Decidable renaming not_not -> Da
set_option maxRecDepth 100000

def correctI (v : Int) (cs : List (List Int)) (steps : List Step) (k : Nat) : Bool :=
 okClause v (steps.getD k Step.z).c &&
 (if (steps.getD k Step.z).l = -1 then decide ((steps.getD k Step.z).p = 0) && (decide (0 <= (steps.getD k Step.z).r) && decide ((steps.getD k Step.z).r <= cs.length - 1)) && decide (cs.getD (steps.getD k Step.z).r.toNat [] = (steps.getD k Step.z).c)
  else okEarlier v steps k (steps.getD k Step.z).l &&
   (if (steps.getD k Step.z).r = -1 then decide ((steps.getD k Step.z).p = 0) && subI (steps.getD (steps.getD k Step.z).l.toNat Step.z).c (steps.getD k Step.z).c
    else (okEarlier v steps k (steps.getD k Step.z).r && (decide (1<=(steps.getD k Step.z).p) && decide ((steps.getD k Step.z).p<=v))) &&
     ((resolveI (steps.getD (steps.getD k Step.z).l.toNat Step.z).c (steps.getD (steps.getD k Step.z).r.toNat Step.z).c (steps.getD k Step.z).p).isSome &&
       decide (optL (resolveI (steps.getD (steps.getD k Step.z).l.toNat Step.z).c (steps.getD (steps.getD k Step.z).r.toNat Step.z).c (steps.getD k Step.z).p)=(steps.getD k Step.z).c))))
theorem joinI_length : ∀ (b a : List Int),(optL (joinI a b)).length<=a.length + b.length
 | [],a => by simp [joinI,optL]
 | y :: r, a => by
   rw [joinI]
   split
   . simp [optL]
   . have:=joinI_length r (if (a.any (· == y))=true then a else putI a y)
     have h : (if (a.any (· == y))=true then a else putI a y).length<=a.length + 1:=by split<;>simp [length_putI]
     simp only [List.length_cons]; omega
theorem resolveI_length (a b : List Int) (v : Int) : (optL (resolveI a b v)).length<=a.length + b.length:=by
 rw [resolveI]
 split
 . have h1:=joinI_length (b.filter fun l => varI l != v) (a.filter fun l => varI l != v)
   have h2:=List.length_filter_le (fun l => varI l != v) a
   have h3:=List.length_filter_le (fun l => varI l != v) b
   omega
 . simp [optL]
end Abs.Y

namespace Abs.Y
open Go Go.Proofs Abs
open Nat renaming reduceEqDiff -> Qa, reduceLT -> Qb, reduceAdd -> Qc, reduceMul -> Qd, reduceSub -> Qe, reduceLeDiff -> Qf, reduceSubDiff -> Qg, reduceBEq -> Qh
open Bool renaming not_eq_true' -> Ba, not_eq_false' -> Bb, and_eq_true -> Bc, or_eq_true -> Bd, or_eq_false_iff -> Be
open Int renaming ofNat_lt -> Ia, ofNat_le -> Ib, not_lt -> Ic, not_le -> Ie
open Decidable renaming not_not -> Da
set_option maxRecDepth 100000

end Abs.Y

namespace Abs.Y
open Go Go.Proofs Abs
open Nat renaming reduceEqDiff -> Qa, reduceLT -> Qb, reduceAdd -> Qc, reduceMul -> Qd, reduceSub -> Qe, reduceLeDiff -> Qf, reduceSubDiff -> Qg, reduceBEq -> Qh
open Bool renaming not_eq_true' -> Ba, not_eq_false' -> Bb, and_eq_true -> Bc, or_eq_true -> Bd, or_eq_false_iff -> Be
open Int renaming ofNat_lt -> Ia, ofNat_le -> Ib, not_lt -> Ic, not_le -> Ie
open Decidable renaming not_not -> Da
set_option maxRecDepth 100000

def wrongI (v : Int) (cs : List (List Int)) (steps : List Step) : Int:=idxR (fun k => !correctI v cs steps k) steps.length
structure Sz (cs : List (List Int)) (steps : List Step) : Prop where
 hl : steps.length<=1048576
 hs : ∀ j,(steps.getD j Step.z).c.length<=1048576
 hcl : cs.length<=1048576
 hc : ∀ j,(cs.getD j []).length<=1048576
def askedI (v : Int) (cs : List (List Int)) (steps : List Step) : Bool:=decide (steps.length<=200) && okCnf v cs
def goodI (v : Int) (cs : List (List Int)) (steps : List Step) : Bool:=askedI v cs steps && decide (wrongI v cs steps < 0)
end Abs.Y

namespace Abs.Y
open Go Go.Proofs Abs
open Nat renaming reduceEqDiff -> Qa, reduceLT -> Qb, reduceAdd -> Qc, reduceMul -> Qd, reduceSub -> Qe, reduceLeDiff -> Qf, reduceSubDiff -> Qg, reduceBEq -> Qh
open Bool renaming not_eq_true' -> Ba, not_eq_false' -> Bb, and_eq_true -> Bc, or_eq_true -> Bd, or_eq_false_iff -> Be
open Int renaming ofNat_lt -> Ia, ofNat_le -> Ib, not_lt -> Ic, not_le -> Ie
open Decidable renaming not_not -> Da
set_option maxRecDepth 100000

end Abs.Y

namespace Abs.Y
open Go Go.Proofs Abs
open Nat renaming reduceEqDiff -> Qa, reduceLT -> Qb, reduceAdd -> Qc, reduceMul -> Qd, reduceSub -> Qe, reduceLeDiff -> Qf, reduceSubDiff -> Qg, reduceBEq -> Qh
open Bool renaming not_eq_true' -> Ba, not_eq_false' -> Bb, and_eq_true -> Bc, or_eq_true -> Bd, or_eq_false_iff -> Be
open Int renaming ofNat_lt -> Ia, ofNat_le -> Ib, not_lt -> Ic, not_le -> Ie
open Decidable renaming not_not -> Da
set_option maxRecDepth 100000

def stepF (s : Step) (left : Int) : Int:=szI s.c left
end Abs.Y
