/- What functions of this program compute, as contracts over plain data, with what the proofs need of them. No condition. -/
import Derived.Test.YtjmniloahfncbaaL3
set_option linter.all false
namespace Abs.Y
open Go Go.Proofs Abs
set_option maxRecDepth 100000
theorem allR_cons {R : D → Prop} {Rs : List (D → Prop)} {xs : List D} (h : AllR (R :: Rs) xs) : ∃ x ys, xs = x :: ys ∧ R x ∧ AllR Rs ys := by
  cases xs with
  | nil => exact h.elim
  | cons x ys => exact ⟨x, ys, rfl, h.1, h.2⟩
theorem allR_nil {xs : List D} (h : AllR [] xs) : xs = [] := by
  cases xs with
  | nil => rfl
  | cons x ys => exact h.elim

end Abs.Y
