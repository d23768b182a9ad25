/- What functions of this program compute, as contracts over plain data, with what the proofs need of them. No condition. -/
import Derived.Test.YtjmniloahfncbaaQ5
set_option linter.all false
namespace Abs.Y
open Go Go.Proofs Abs
set_option maxRecDepth 100000

/-! ### What a step uses -/
def premI (s : Step) : List Int := if s.l < 0 then [] else if s.r < 0 then [s.l] else [s.l, s.r]
/-- One more at a place. -/
def incI (l : List Int) (k : Int) : List Int := l.set k.toNat (l.getD k.toNat 0 + 1)
def usesS (l : List Int) (s : Step) : List Int := (premI s).foldl incI l
def usesI (steps : List Step) : List Int := steps.foldl usesS (List.replicate steps.length 0)
theorem premI_fine {steps : List Step} {k : Nat} (hf : FineS steps k) (j : Nat) (hj : j < (premI (steps.getD k Step.z)).length) : 0 ≤ (premI (steps.getD k Step.z)).getD j 0 ∧ (premI (steps.getD k Step.z)).getD j 0 < k := by
  unfold FineS at hf
  unfold premI at *
  generalize steps.getD k Step.z = s at *
  split at hj
  · simp at hj
  · rename_i h1
    rw [if_neg h1]
    split at hj
    · rename_i h2
      rw [if_pos h2]
      simp only [List.length_cons, List.length_nil] at hj
      obtain rfl : j = 0 := by omega
      simp only [List.getD_cons_zero]; omega
    · rename_i h2
      rw [if_neg h2]
      simp only [List.length_cons, List.length_nil] at hj
      obtain rfl | rfl : j = 0 ∨ j = 1 := by omega
      · simp only [List.getD_cons_zero]; omega
      · simp only [List.getD_cons_zero, List.getD_cons_succ]; omega
theorem premI_len (s : Step) : (premI s).length ≤ 2 := by
  unfold premI; split
  · simp
  · split <;> simp
/-! ### The greatest -/
def maxI (xs : List Int) : Int := (xs.drop 1).foldl max (xs.getD 0 0)
end Abs.Y
