/- What functions of this program compute, as contracts over plain data, with what the proofs need of them. No condition. -/
import Derived.Test.YtcpflbfcglcjfaaU7
import Derived.Test.YtcpflbfcglcjfaaE11
set_option linter.all false
namespace Abs.Y
open Go Go.Proofs Abs
open Nat renaming reduceEqDiff -> Qa, reduceLT -> Qb, reduceAdd -> Qc, reduceMul -> Qd, reduceSub -> Qe, reduceLeDiff -> Qf, reduceSubDiff -> Qg, reduceBEq -> Qh
open Bool renaming not_eq_true' -> Ba, not_eq_false' -> Bb, and_eq_true -> Bc, or_eq_true -> Bd, or_eq_false_iff -> Be
open Int renaming ofNat_lt -> Ia, ofNat_le -> Ib, not_lt -> Ic, not_le -> Ie
open Decidable renaming not_not -> Da
set_option maxRecDepth 100000

end Abs.Y

namespace Abs.Y
open Go Go.Proofs Abs
open Nat renaming reduceEqDiff -> Qa, reduceLT -> Qb, reduceAdd -> Qc, reduceMul -> Qd, reduceSub -> Qe, reduceLeDiff -> Qf, reduceSubDiff -> Qg, reduceBEq -> Qh
open Bool renaming not_eq_true' -> Ba, not_eq_false' -> Bb, and_eq_true -> Bc, or_eq_true -> Bd, or_eq_false_iff -> Be
open Int renaming ofNat_lt -> Ia, ofNat_le -> Ib, not_lt -> Ic, not_le -> Ie
open Decidable renaming not_not -> Da
set_option maxRecDepth 100000

def goodN (v : Int) (cs : List (List Int)) (w : Int) : Bool := (okCnf v cs && decide (v <= 6)) && (decide (0 <= w) && decide (w <= 6))
open Classical in
noncomputable def srtV (S : List Int -> Prop) : List (List Int) := if h : ∃ l, Srt l ∧ ∀ c, c ∈ l ↔ S c then h.choose else []
def CloS (cs : List (List Int)) (w : Nat) (c : List Int) : Prop := ∃ k, NewC cs w k c
noncomputable def closV (cs : List (List Int)) (w : Nat) : List (List Int) := srtV (CloS cs w)
noncomputable def closI (v : Int) (cs : List (List Int)) (w : Int) : List (List Int) := if goodN v cs w then closV cs w.toNat else []
end Abs.Y
