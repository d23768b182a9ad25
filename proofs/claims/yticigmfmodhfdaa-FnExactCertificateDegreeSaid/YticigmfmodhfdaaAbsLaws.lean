/- What the laws' own helpers compute on lists: the sizes. No condition. -/
import Derived.Test.YticigmfmodhfdaaAbsLib
set_option linter.all false
namespace Abs

/-- What is left of a bound behind the elements of a list; -1: nothing. -/
def szL {α : Type} (f : α → Int → Int) : List α → Int → Int
  | [], left => left
  | x :: r, left => if f x left < 0 then -1 else szL f r (f x left)
def szS {α : Type} (f : α → Int → Int) (a : List α) (left : Int) : Int := if left - a.length < 0 then -1 else szL f a (left - a.length)
def szI (a : List Int) (left : Int) : Int := if left - a.length < 0 then -1 else left - a.length
/-- f takes something off, or says that nothing is left. -/
def SzF {α : Type} (f : α → Int → Int) : Prop := ∀ x left, 0 ≤ left → f x left = -1 ∨ (0 ≤ f x left ∧ f x left ≤ left)
theorem szI_szF : SzF szI := fun x left h => by unfold szI; split <;> omega
theorem szL_szF {α : Type} {f : α → Int → Int} (hf : SzF f) : ∀ (l : List α) (left : Int), 0 ≤ left → szL f l left = -1 ∨ (0 ≤ szL f l left ∧ szL f l left ≤ left)
  | [], left, h => .inr ⟨h, Int.le_refl _⟩
  | x :: r, left, h => by
    simp only [szL]
    split
    · exact .inl rfl
    · rcases hf x left h with h1 | h1
      · omega
      · have := szL_szF hf r (f x left) h1.1; omega
theorem szS_szF {α : Type} {f : α → Int → Int} (hf : SzF f) : SzF (szS f) := fun x left h => by
  unfold szS
  split
  · exact .inl rfl
  · have := szL_szF hf x (left - x.length) (by omega); omega
/-- Where something is left, each element's own size was left too. -/
theorem szL_each {α : Type} {f : α → Int → Int} (hf : SzF f) : ∀ (l : List α) (left : Int), 0 ≤ left → 0 ≤ szL f l left → ∀ x ∈ l, ∃ y, 0 ≤ y ∧ y ≤ left ∧ 0 ≤ f x y
  | [], _, _, _, x, hx => by cases hx
  | y :: r, left, h, h2, x, hx => by
    simp only [szL] at h2
    split at h2
    · omega
    · rename_i h3
      rcases List.mem_cons.1 hx with rfl | hx
      · exact ⟨left, h, Int.le_refl _, by omega⟩
      · obtain ⟨z, h4, h5, h6⟩ := szL_each hf r (f y left) (by omega) h2 x hx
        rcases hf y left h with h7 | h7
        · omega
        · exact ⟨z, h4, by omega, h6⟩
theorem szS_len {α : Type} {f : α → Int → Int} {a : List α} {left : Int} (h : 0 ≤ szS f a left) : (a.length : Int) ≤ left := by
  unfold szS at h; split at h <;> omega
theorem szS_each {α : Type} {f : α → Int → Int} (hf : SzF f) {a : List α} {left : Int} (h : 0 ≤ szS f a left) : ∀ x ∈ a, ∃ y, 0 ≤ y ∧ y ≤ left ∧ 0 ≤ f x y := by
  have hl := szS_len h
  unfold szS at h
  split at h
  · omega
  · intro x hx
    obtain ⟨y, h1, h2, h3⟩ := szL_each hf a _ (by omega) h x hx
    exact ⟨y, h1, by omega, h3⟩
theorem szI_len {a : List Int} {left : Int} (h : 0 ≤ szI a left) : (a.length : Int) ≤ left := by
  unfold szI at h; split at h <;> omega
end Abs
