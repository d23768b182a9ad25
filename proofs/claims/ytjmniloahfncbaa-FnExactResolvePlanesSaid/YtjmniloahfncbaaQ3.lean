/- What functions of this program compute, as contracts over plain data, with what the proofs need of them. No condition. -/
import Derived.Test.YtjmniloahfncbaaQ2
set_option linter.all false
namespace Abs.Y
open Go Go.Proofs Abs
set_option maxRecDepth 100000

/-! ### Refutations, proofs -/
def lastS (steps : List Step) : Step := steps.getD (steps.length - 1) Step.z
theorem lastS_len {cs : List (List Int)} {steps : List Step} (z : Sz cs steps) : (lastS steps).c.length ≤ 1048576 := z.hs _
def refI (v : Int) (cs : List (List Int)) (steps : List Step) : Bool := goodI v cs steps && (decide (0 < steps.length) && (((lastS steps).c.length : Int) == 0))
def proofI (v : Int) (cs : List (List Int)) (steps : List Step) : Bool := goodI v cs steps && decide (0 < steps.length)
theorem max_if (x y : Int) : (if y > x then y else x) = max x y := by omega
def widthL (a : List Step) (w : Int) : Int := a.foldl (fun w s => max w (s.c.length : Int)) w
theorem widthL_drop {steps : List Step} {i : Nat} (h : i < steps.length) (w : Int) : widthL (steps.drop i) w = widthL (steps.drop (i + 1)) (max w ((steps.getD i Step.z).c.length : Int)) := by
  rw [drop_cons Step.z steps i h]; rfl
theorem widthL_end {steps : List Step} {i : Nat} (h : steps.length ≤ i) (w : Int) : widthL (steps.drop i) w = w := by
  rw [List.drop_eq_nil_of_le h]; rfl
def widthI (v : Int) (cs : List (List Int)) (steps : List Step) : Int := if proofI v cs steps then widthL steps 0 else 0
end Abs.Y
