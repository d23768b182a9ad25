/- What functions of this program compute, over plain data. No condition. -/
import Derived.Test.YtckigpgkmdhfoaaE11
import Derived.Test.YtckigpgkmdhfoaaST2
import Derived.Test.YtckigpgkmdhfoaaG8
import Derived.Test.YtckigpgkmdhfoaaW9
set_option linter.all false
open Nat renaming reduceEqDiff -> Qa, reduceLT -> Qb, reduceAdd -> Qc, reduceMul -> Qd, reduceSub -> Qe, reduceLeDiff -> Qf, reduceSubDiff -> Qg, reduceBEq -> Qh
open Bool renaming not_eq_true' -> Ba, not_eq_false' -> Bb, and_eq_true -> Bc, or_eq_true -> Bh, or_eq_false_iff -> Be
open Int renaming ofNat_lt -> Ia, ofNat_le -> Ib, not_lt -> Ic, not_le -> Ie
open Decidable renaming not_not -> Da
namespace Abs
open Go Go.RowKit
end Abs
namespace Abs.Y
open Go Go.Proofs Abs
set_option maxRecDepth 100000

def idxG {α : Type} (p : α->Bool) (l : List α) : Int:=match l.findIdx? p with | some i => (i : Nat) | none => -1
section
variable {α : Type} {z : α} {p : α->Bool} {l : List α}
end
def keepN (p : Tg->Bool) (ps : List Tg) (j : Nat) : List Tg:=(ps.take j).filter fun q => !(p q)
end Abs.Y

namespace Abs.Y
open Go Go.Proofs Abs
set_option maxRecDepth 100000

def cvI (c a : List Int) : Int:=if c.any (fun l => a.any (· == l)) then 1 else if c.any (fun l => !(a.any (· == 0 - l))) then 0 else -1
def cvS (c a : List Int) (i : Nat) : Int:=if (c.take i).any (fun l => !(a.any (· == 0 - l))) then 0 else -1
theorem cvS_succ {c a : List Int} {i : Nat} (h : i < c.length) : cvS c a (i + 1)=if a.any (· == 0 - c.getD i 0) then cvS c a i else 0:=by
 unfold cvS
 rw [take_succ 0 c i h,List.any_append]
 simp only [List.any_cons,List.any_nil,Bool.or_false]
 cases a.any (· == 0 - c.getD i 0)<;>simp
theorem cvI_one {c a : List Int} {i : Nat} (h : i < c.length) (hp : a.any (· == c.getD i 0)=true) : cvI c a=1:=by
 unfold cvI
 rw [if_pos (List.any_eq_true.2 ⟨_,getD_mem (z:=(0 : Int)) h,hp⟩)]
theorem cvI_end {c a : List Int} (h : ∀ j,j < c.length->a.any (· == c.getD j 0)=false) : cvI c a=cvS c a c.length:=by
 unfold cvI cvS
 rw [if_neg (fun hh => by
  obtain ⟨x,hx,hx'⟩:=List.any_eq_true.1 hh
  obtain ⟨k,hk,rfl⟩:=List.getElem_of_mem hx
  have:=h k hk
  rw [List.getD_eq_getElem?_getD,List.getElem?_eq_getElem hk,Option.getD_some,hx'] at this
  cases this),List.take_length]
def fcI (cs : List (List Int)) (a : List Int) : Nat->List Int
 | 0 => []
 | i + 1 => if cvI (cs.getD i []) a < 0 then fcI cs a i++[(i : Int)] else fcI cs a i
theorem cvI_bd (c a : List Int) : -1<=cvI c a∧cvI c a<=1:=by
 unfold cvI; split
 . omega
 . split<;>omega
def totI (b : Nat) : Nat->List Int
 | 0 => []
 | v + 1 => totI b v++[if b.testBit v then ((v + 1 : Nat) : Int) else -((v + 1 : Nat) : Int)]
theorem totI_len (b : Nat) : ∀ v,(totI b v).length=v
 | 0 => rfl
 | v + 1 => by rw [totI,List.length_append,totI_len b v]; rfl
end Abs.Y

namespace Abs.Y
open Go Go.Proofs Abs
set_option maxRecDepth 100000

end Abs.Y

namespace Abs.Y
open Go Go.Proofs Abs
set_option maxRecDepth 100000

def badJ (n : Int) (j : Int) : Bool:=!(decide (0<=j) && decide (j<=n))
def bmB (n : Nat) (h : List Int) : Nat->Nat
 | 0 => 0
 | i + 1 => if 0 < h.getD i 0 then bmB n h i ||| 2 ^ (i * n + (h.getD i 0).toNat - 1) else bmB n h i
end Abs.Y

namespace Abs.Y
open Go Go.Proofs Abs
set_option maxRecDepth 100000

def plOK (n i j : Int) : Bool:=decide (1<=n) && decide (n<=3) && (decide (1<=i) && decide (i<=n + 1)) && (decide (1<=j) && decide (j<=n))
def a1P (n i j : Nat) : Nat->List Int
 | 0 => [pvar n i j]
 | m + 1 => if m + 1=j then a1P n i j m else a1P n i j m++[-(pvar n i (m + 1))]
def a2P (n i j : Nat) : Nat->List Int
 | 0 => a1P n i j n
 | k + 1 => if k + 1=i then a2P n i j k else a2P n i j k++[-(pvar n (k + 1) j)]
def sR (n i j k : Nat) (l : List Int) : Nat->List Int
 | 0 => l
 | m + 1 => if k=i∧m + 1=j then sR n i j k l m++[pvar n k (m + 1)] else if k=i∨m + 1=j then sR n i j k l m++[-(pvar n k (m + 1))] else sR n i j k l m
def sPl (n i j : Nat) : Nat->List Int
 | 0 => []
 | k + 1 => sR n i j (k + 1) (sPl n i j k) n
def placeP (n i j : Nat) : List Int:=sPl n i j (n + 1)
end Abs.Y

namespace Abs.Y
open Go Go.Proofs Abs
set_option maxRecDepth 100000

end Abs.Y
