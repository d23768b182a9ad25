/- A variable that will not be written any more becomes data: its address reads as a pointer to data. No condition. -/
import Derived.Test.YtoppjihdipidiaaAbsOwn
set_option linter.all false
namespace Abs
open Go Go.RowKit

mutual
def AV.bfz (j : Nat) (x : D) : AV → AV
  | .sl i => if i = j then .undef else .sl i
  | .p i o => if i = j then (if o = 0 then .d (.ptr x) else .undef) else .p i o
  | .pe i k n o => if i = j then .undef else .pe i k n o
  | .tup xs => .tup (AV.bfzL j x xs)
  | .st xs => .st (AV.bfzL j x xs)
  | .fn f cs => .fn f (AV.bfzL j x cs)
  | y => y
def AV.bfzL (j : Nat) (x : D) : List AV → List AV
  | [] => []
  | y :: r => y.bfz j x :: AV.bfzL j x r
end
def bfzS (j : Nat) (x : D) : List (Nat × AV) → List (Nat × AV)
  | [] => []
  | (k, v) :: r => (k, v.bfz j x) :: bfzS j x r
def AO.bfz (j : Nat) (x : D) : AO → AO
  | .box e cells => .box e (AV.bfzL j x cells)
  | .dp t xs (some (c, some d)) => .dp t xs (if d = j then some (c, none) else some (c, some d))
  | y => y
def bfzO (j : Nat) (x : D) : List (Nat × AO) → List (Nat × AO)
  | [] => []
  | (k, v) :: r => if k = j then bfzO j x r else (k, v.bfz j x) :: bfzO j x r
/-- A body whose first part is walked, then what is known is weakened, then the rest is walked. -/
def cutQ (P : Program) (N : Nat) (y : Code) (Q : Exit → St → Prop) (st : St) : Prop := ∃ st', Wk N st st' ∧ Awp P N y Q st'
/-- Results that are data are one datum. -/
theorem Ctr.tupN {P : Program} {f : FuncId} {xs ys : List D} {sh : Bool} (h : Ctr P f xs sh (.tup (ys.map .d)) []) : Ctr P f xs sh (.d (.tup ys)) [] := by
  refine ⟨h.1, fun S w vs hvl hvr => (h.2 S w vs hvl hvr).mono fun e w' ⟨v, he, hF, β, φ, hR, h1, h2, h3⟩ => ⟨v, he, hF, β, φ, ?_, h1, h2, h3⟩⟩
  cases hR with
  | tup hl hr =>
    refine .d (.tup (by simpa using hl) fun i hi => ?_)
    have := hr i (by simpa using hi)
    have e : (ys.map AV.d).getD i .undef = .d (ys.getD i .nilptr) := by simp [List.getD_eq_getElem?_getD, hi]
    rw [e] at this
    cases this with
    | d h => exact h
end Abs
