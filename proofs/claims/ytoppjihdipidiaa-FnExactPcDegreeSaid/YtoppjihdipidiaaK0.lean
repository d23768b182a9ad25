/- What functions of this program compute, as contracts over plain data, with what the proofs need of them. No condition. -/
import Derived.Test.YtoppjihdipidiaaL1
import Derived.Test.YtoppjihdipidiaaAbsRow
set_option linter.all false
namespace Abs.Y
open Go Go.Proofs Abs
set_option maxRecDepth 100000

/-! ### The arguments of the laws, as data -/
theorem map_ex {α : Type} (f : α → D) {es : List D} {R : D → Prop} {Q : α → Prop} (h : ∀ e ∈ es, R e) (hR : ∀ e, R e → ∃ x, e = f x ∧ Q x) : ∃ xs : List α, es = xs.map f ∧ ∀ x ∈ xs, Q x := by
  induction es with
  | nil => exact ⟨[], rfl, by simp⟩
  | cons e r ih =>
    obtain ⟨x, hx, hq⟩ := hR e (h e (by simp))
    obtain ⟨xs, hxs, hqs⟩ := ih fun e he => h e (by simp [he])
    exact ⟨x :: xs, by simp [hx, hxs], fun y hy => by
      rcases List.mem_cons.1 hy with rfl | hy
      · exact hq
      · exact hqs y hy⟩
theorem maxLen_eq : maxLen = 9223372036854775807 := rfl
theorem r_ints {x : D} (h : isSl isI64 x) : ∃ a : List Int, x = D.ints a ∧ a.length ≤ 9223372036854775807 := by
  obtain ⟨es, rfl, hl, he⟩ := h
  obtain ⟨a, rfl, _⟩ := map_ex (D.int .i64) (Q := fun _ => True) he fun e ⟨n, hn, _⟩ => ⟨n, hn, trivial⟩
  exact ⟨a, rfl, by rw [maxLen_eq] at hl; simpa using hl⟩
theorem r_intss {x : D} (h : isSl (isSl isI64) x) : ∃ a : List (List Int), x = .slice (a.map D.ints) ∧ a.length ≤ 9223372036854775807 ∧ ∀ y ∈ a, y.length ≤ 9223372036854775807 := by
  obtain ⟨es, rfl, hl, he⟩ := h
  obtain ⟨a, rfl, ha⟩ := map_ex D.ints he fun e h => r_ints h
  exact ⟨a, rfl, by rw [maxLen_eq] at hl; simpa using hl, ha⟩
end Abs.Y
