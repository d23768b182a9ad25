/- What functions of this program compute, as contracts over plain data, with what the proofs need of them. No condition. -/
import Derived.Test.YtfaamimlkogcpaaA4
import Derived.Test.YtfaamimlkogcpaaE0
set_option linter.all false
namespace Abs.Y
open Go Go.Proofs Abs
open Nat renaming reduceEqDiff → zqa, reduceLT → zqb, reduceAdd → zqc, reduceMul → zqd, reduceSub → zqe, reduceLeDiff → zqf, reduceSubDiff → zqg, reduceBEq → zqh
open Bool renaming not_eq_true' → zba, not_eq_false' → zbb, and_eq_true → zbc, or_eq_true → zbd, or_eq_false_iff → zbe
open Int renaming ofNat_lt → zia, ofNat_le → zib, not_lt → zic, not_le → zid
open Decidable renaming not_not → zda
set_option maxRecDepth 100000

theorem mem_spT {v : List Int} {t : (Int × Int)} : t ∈ spT v ↔ ∃ m : Nat, m < v.length ∧ v.getD m 0 ≠ 0 ∧ t = ((m : Int), v.getD m 0) := by
  unfold spT
  simp only [List.mem_map, List.mem_filter, List.mem_range, decide_eq_true_eq]
  constructor
  · rintro ⟨m, ⟨h1, h2⟩, rfl⟩; exact ⟨m, h1, h2, rfl⟩
  · rintro ⟨m, h1, h2, rfl⟩; exact ⟨m, ⟨h1, h2⟩, rfl⟩
theorem spT_has {v : List Int} {m : Nat} (h : v.getD m 0 ≠ 0) : ∃ i, i < (spT v).length ∧ (spT v).getD i (0, 0) = ((m : Int), v.getD m 0) := by
  obtain ⟨i, hi, he⟩ := mem_getD (z := ((0, 0) : (Int × Int))) (mem_spT.2 ⟨m, lt_of_get h, h, rfl⟩)
  exact ⟨i, hi, he⟩
theorem spT_nil {v : List Int} : spT v = [] ↔ ldI v < 0 := by
  rw [ldI_neg]
  constructor
  · intro h i
    by_cases hi : v.getD i 0 = 0
    · exact hi
    · obtain ⟨j, hj, _⟩ := spT_has hi
      rw [h] at hj; simp at hj
  · intro h
    cases hs : spT v with
    | nil => rfl
    | cons t r =>
      obtain ⟨m, _, h2, _⟩ := mem_spT.1 (show t ∈ spT v by rw [hs]; simp)
      exact absurd (h m) h2
end Abs.Y

namespace Abs.Y
open Go Go.Proofs Abs
open Nat renaming reduceEqDiff → zqa, reduceLT → zqb, reduceAdd → zqc, reduceMul → zqd, reduceSub → zqe, reduceLeDiff → zqf, reduceSubDiff → zqg, reduceBEq → zqh
open Bool renaming not_eq_true' → zba, not_eq_false' → zbb, and_eq_true → zbc, or_eq_true → zbd, or_eq_false_iff → zbe
open Int renaming ofNat_lt → zia, ofNat_le → zib, not_lt → zic, not_le → zid
open Decidable renaming not_not → zda
set_option maxRecDepth 100000

section
variable {p : Int} {u : Nat} (hp : 1 < p ∧ p ≤ 5) (hu : u ≤ 6)
include hp hu
end
end Abs.Y

namespace Abs.Y
open Go Go.Proofs Abs
open Nat renaming reduceEqDiff → zqa, reduceLT → zqb, reduceAdd → zqc, reduceMul → zqd, reduceSub → zqe, reduceLeDiff → zqf, reduceSubDiff → zqg, reduceBEq → zqh
open Bool renaming not_eq_true' → zba, not_eq_false' → zbb, and_eq_true → zbc, or_eq_true → zbd, or_eq_false_iff → zbe
open Int renaming ofNat_lt → zia, ofNat_le → zib, not_lt → zic, not_le → zid
open Decidable renaming not_not → zda
set_option maxRecDepth 100000

def sumC (p : Int) (u : Nat) (cs : List (List Int)) (list : List (List (Int × Int))) (k : Nat) : List Int :=
  (List.range k).foldl (fun v i => addD p 1 v (mulD p (2 ^ u) (dnT (2 ^ u) (list.getD i [])) (clauseD p u (cs.getD i [])))) (List.replicate (2 ^ u) 0)
section
variable {p : Int} {u : Nat} (hp : 1 < p ∧ p ≤ 5) (hu : u ≤ 6)
include hp hu
end
end Abs.Y
