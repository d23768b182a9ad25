/- What functions of this program compute, as contracts over plain data, with what the proofs need of them. No condition. -/
import Derived.Test.YtcpflbfcglcjfaaU6
set_option linter.all false
namespace Abs.Y
open Go Go.Proofs Abs
open Nat renaming reduceEqDiff -> Qa, reduceLT -> Qb, reduceAdd -> Qc, reduceMul -> Qd, reduceSub -> Qe, reduceLeDiff -> Qf, reduceSubDiff -> Qg, reduceBEq -> Qh
open Bool renaming not_eq_true' -> Ba, not_eq_false' -> Bb, and_eq_true -> Bc, or_eq_true -> Bd, or_eq_false_iff -> Be
open Int renaming ofNat_lt -> Ia, ofNat_le -> Ib, not_lt -> Ic, not_le -> Ie
open Decidable renaming not_not -> Da
set_option maxRecDepth 100000

structure FinC (cs : List (List Int)) (w : Nat) (L : CT) (last : Nat) : Prop where
 nd : (keysC L).Nodup
 mem : ∀ c k, (c, k) ∈ L ↔ NewC cs w k c
 le : ∀ p ∈ L, p.2 <= last
 ex : L ≠ [] -> ∃ p ∈ L, p.2 = last
def D.clo (L : CT) (last : Nat) : D := .agg [.slice ((esO L).map fun p => .int .u16 p.1), .map .u16 .i64 (esO L), .int .i64 (last : Nat)]
structure Inv0 (cs : List (List Int)) (w i : Nat) (L : CT) : Prop where
 nd : (keysC L).Nodup
 mem : ∀ c k, (c, k) ∈ L ↔ k = 0 ∧ c ∈ cs.take i ∧ c.length <= w
end Abs.Y
