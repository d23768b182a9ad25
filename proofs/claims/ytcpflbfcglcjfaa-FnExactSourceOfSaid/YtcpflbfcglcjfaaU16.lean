/- What functions of this program compute, over plain data. No condition. -/
import Derived.Test.YtcpflbfcglcjfaaU14
import Derived.Test.YtcpflbfcglcjfaaM1
import Derived.Test.YtcpflbfcglcjfaaE12
set_option linter.all false
namespace Abs.Y
open Go Go.Proofs Abs
open Nat renaming reduceEqDiff -> Qa, reduceLT -> Qb, reduceAdd -> Qc, reduceMul -> Qd, reduceSub -> Qe, reduceLeDiff -> Qf, reduceSubDiff -> Qg, reduceBEq -> Qh
open Bool renaming not_eq_true' -> Ba, not_eq_false' -> Bb, and_eq_true -> Bc, or_eq_true -> Bd, or_eq_false_iff -> Be
open Int renaming ofNat_lt -> Ia, ofNat_le -> Ib, not_lt -> Ic, not_le -> Ie
open Decidable renaming not_not -> Da
set_option maxRecDepth 100000

def minI (l : List (List Int)) : List (List Int):=l.filter fun c => !(l.any fun d => decide (d.length < c.length) && subI d c)
def minS (l : List (List Int)) : Nat->List (List Int)
 | 0 => []
 | i + 1 => if (minS l i).any (fun d => subI d (l.getD i [])) then minS l i else minS l i++[l.getD i []]
end Abs.Y

namespace Abs
open Go Go.RowKit
theorem Ctr.read {P : Program} {f : FuncId} {xs ys : List D} {sh : Bool} {res : AV} {oo : List (Nat × AO)} (h : Ctr P f xs sh res oo) (hl : ys.length=xs.length) (hy : ∀ (S : Nat->Prop) w i v,i < ys.length->Rd S w (ys.getD i .nilptr) v->Rd S w (xs.getD i .nilptr) v) : Ctr P f ys sh res oo :=
 ⟨h.1,fun S w vs hl' hr => h.2 S w vs (by rw [← hl]; exact hl') fun i hi => hy _ _ _ _ (by rw [hl]; exact hi) (hr i (by rw [hl]; exact hi))⟩
end Abs
namespace Abs.Y
open Go Go.Proofs Abs
open Nat renaming reduceEqDiff -> Qa, reduceLT -> Qb, reduceAdd -> Qc, reduceMul -> Qd, reduceSub -> Qe, reduceLeDiff -> Qf, reduceSubDiff -> Qg, reduceBEq -> Qh
open Bool renaming not_eq_true' -> Ba, not_eq_false' -> Bb, and_eq_true -> Bc, or_eq_true -> Bd, or_eq_false_iff -> Be
open Int renaming ofNat_lt -> Ia, ofNat_le -> Ib, not_lt -> Ic, not_le -> Ie
open Decidable renaming not_not -> Da
set_option maxRecDepth 100000

noncomputable def minC (v : Int) (cs : List (List Int)) (w : Int) : List (List Int):=if goodN v cs w then minI (closV cs w.toNat) else []
end Abs.Y

namespace Abs.Y
open Go Go.Proofs Abs
open Nat renaming reduceEqDiff -> Qa, reduceLT -> Qb, reduceAdd -> Qc, reduceMul -> Qd, reduceSub -> Qe, reduceLeDiff -> Qf, reduceSubDiff -> Qg, reduceBEq -> Qh
open Bool renaming not_eq_true' -> Ba, not_eq_false' -> Bb, and_eq_true -> Bc, or_eq_true -> Bd, or_eq_false_iff -> Be
open Int renaming ofNat_lt -> Ia, ofNat_le -> Ib, not_lt -> Ic, not_le -> Ie
open Decidable renaming not_not -> Da
set_option maxRecDepth 100000

def IsLast (cs : List (List Int)) (w r : Nat) : Prop:=(∃ c,NewC cs w r c)∧∀ c,¬ NewC cs w (r + 1) c
open Classical in
noncomputable def roundsV (cs : List (List Int)) (w : Nat) : List (List (List Int)):=if h : ∃ r,IsLast cs w r then (List.range (h.choose + 1)).map fun k => srtV (NewC cs w k) else []
section
variable {cs : List (List Int)} {w vars r : Nat}
def grpI (l : List (List Int)) (rd : List Int) : Nat->List (List (List Int))
 | 0 => []
 | i + 1 => if i=0∨rd.getD i 0 ≠ rd.getD (i - 1) 0 then grpI l rd i++[[l.getD i []]] else (grpI l rd i).dropLast++[(grpI l rd i).getLastD []++[l.getD i []]]
end
end Abs.Y
