/- What functions of this program compute, over plain data. No condition. -/
import Derived.Test.YtdohpocdlkcaoaaGreatAbsBox
set_option linter.all false
namespace Abs.Y
open Go Go.Proofs Abs
open Nat renaming reduceEqDiff -> Qa, reduceLT -> Qb, reduceAdd -> Qc, reduceMul -> Qd, reduceSub -> Qe, reduceLeDiff -> Qf, reduceSubDiff -> Qg, reduceBEq -> Qh
open Bool renaming not_eq_true' -> Ba, not_eq_false' -> Bb, and_eq_true -> Bc, or_eq_true -> Bd, or_eq_false_iff -> Be
open Int renaming ofNat_lt -> Ia, ofNat_le -> Ib, not_lt -> Ic, not_le -> Ie
open Decidable renaming not_not -> Da
set_option maxRecDepth 100000

def c01 (cs : List (List Int)) (s : PSt) : Prop:=s.ru=1∧(0<=s.l∧s.l<=(cs.length : Int) - 1)∧s.r=0∧s.n=0
def c02 (u : Int) (s : PSt) : Prop:=s.ru=2∧(1<=s.l∧s.l<=u)∧s.r=0∧s.n=0
def c03 (u : Int) (s : PSt) : Prop:=s.ru=3∧(1<=s.l∧s.l<=u)∧s.r=0∧s.n=0
instance (cs) (s : PSt) : Decidable (c01 cs s):=by unfold c01; infer_instance
instance (u) (s : PSt) : Decidable (c02 u s):=by unfold c02; infer_instance
instance (u) (s : PSt) : Decidable (c03 u s):=by unfold c03; infer_instance
def dueQ (u : Int) (cs : List (List Int)) (s : PSt) (b1 : Bool) (q1 : Pl) (b2 : Bool) (q2 : Pl) : Option Pl :=
 if c01 cs s then some (planI u (cs.getD s.l.toNat []))
 else if c02 u s then some (sgl u s.l 1 0)
 else if c03 u s then some (sgl u s.l (-1) (-1))
 else if s.ru=4∧b1=true∧b2=true∧s.n=0 then some (addP q1 q2)
 else if s.ru=5∧b1=true∧s.r=0∧(1<=s.n∧s.n<=1000) then some (zipP (fun a _ => s.n * a) q1 q1)
 else if s.ru=6∧b1=true∧s.r=0∧(2<=s.n∧s.n<=1000)∧oddK s.n q1=false then some (halfK s.n q1)
 else none
def qOf (u : Int) (st : List PSt) (k : Nat) (i : Int) : Pl:=if befP u st k i then (st.getD i.toNat PSt.z).q else ⟨[],0⟩
def dueP (u : Int) (cs : List (List Int)) (st : List PSt) (k : Nat) : Option Pl :=
 dueQ u cs (st.getD k PSt.z) (befP u st k (st.getD k PSt.z).l) (qOf u st k (st.getD k PSt.z).l) (befP u st k (st.getD k PSt.z).r) (qOf u st k (st.getD k PSt.z).r)
def optP (o : Option Pl) : Pl:=match o with | some q => q | none => ⟨[],0⟩
theorem qOf_bd {u : Int} {st : List PSt} {k : Nat} {i : Int} (h : befP u st k i=true) : Bd 10000 (qOf u st k i)∧((qOf u st k i).co.length : Int)=u:=by
 unfold qOf
 rw [if_pos h]
 simp only [befP,Bc] at h
 exact okPl_bd h.2
def corrP (u : Int) (cs : List (List Int)) (st : List PSt) (k : Nat) : Bool:=okPl u (st.getD k PSt.z).q && decide (dueP u cs st k=some (st.getD k PSt.z).q)
end Abs.Y
