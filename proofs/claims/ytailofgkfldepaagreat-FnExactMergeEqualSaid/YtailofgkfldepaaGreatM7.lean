/- What functions of this program compute, as contracts over plain data, with what the proofs need of them. No condition. -/
import Derived.Test.YtailofgkfldepaaGreatM1
import Derived.Test.YtailofgkfldepaaGreatQ5
set_option linter.all false
namespace Abs.Y
open Go Go.Proofs Abs
set_option maxRecDepth 100000

/-! ### Lists of lists -/
def hasI (lists : List (List Int)) (l : List Int) : Bool := decide (0 ≤ idxR (fun j => decide (lists.getD j [] = l)) lists.length)
/-! ### ProofToLearned -/
def lrnF (acc : List (List Int)) (s : Step) : List (List Int) := if decide (s.l < 0) || hasI acc s.c then acc else acc ++ [s.c]
def lrnL (steps : List Step) : List (List Int) := steps.foldl lrnF []
theorem lrnL_succ (steps : List Step) (i : Nat) (h : i < steps.length) : lrnL (steps.take (i + 1)) = lrnF (lrnL (steps.take i)) (steps.getD i Step.z) := by
  rw [take_succ Step.z steps i h]; simp only [lrnL, List.foldl_append, List.foldl_cons, List.foldl_nil]
theorem lrnF_fine {acc : List (List Int)} {s : Step} {n : Nat} (h1 : acc.length ≤ n) (h2 : ∀ x ∈ acc, x.length ≤ 1048576) (hs : s.c.length ≤ 1048576) : (lrnF acc s).length ≤ n + 1 ∧ ∀ x ∈ lrnF acc s, x.length ≤ 1048576 := by
  unfold lrnF
  split
  · exact ⟨by omega, h2⟩
  · refine ⟨by simp; omega, fun x hx => ?_⟩
    rcases List.mem_append.1 hx with h | h
    · exact h2 x h
    · simp at h; rw [h]; exact hs
theorem lrnL_fine {cs : List (List Int)} {steps : List Step} (z : Sz cs steps) : ∀ i, i ≤ steps.length → (lrnL (steps.take i)).length ≤ i ∧ ∀ x ∈ lrnL (steps.take i), x.length ≤ 1048576
  | 0, _ => by simp [lrnL]
  | i + 1, h => by
    rw [lrnL_succ steps i (by omega)]
    obtain ⟨h1, h2⟩ := lrnL_fine z i (by omega)
    exact lrnF_fine h1 h2 (z.hs i)
theorem getD_len {a : List (List Int)} {B : Nat} (h : ∀ x ∈ a, x.length ≤ B) (j : Nat) : (a.getD j []).length ≤ B := by
  by_cases hj : j < a.length
  · exact h _ (getD_mem hj)
  · rw [List.getD_eq_getElem?_getD, List.getElem?_eq_none (by omega)]; simp
def lrnB (v : Int) (cs : List (List Int)) (steps : List Step) : Bool := proofI v cs steps && decide ((lrnL steps).length ≤ 60)
def lrnI (v : Int) (cs : List (List Int)) (steps : List Step) : List (List Int) := if lrnB v cs steps then lrnL steps else []
theorem lrnI_fine {v : Int} {cs : List (List Int)} {steps : List Step} (z : Sz cs steps) : (lrnI v cs steps).length ≤ 4294967296 ∧ ∀ x ∈ lrnI v cs steps, x.length ≤ 1048576 := by
  have h := lrnL_fine z steps.length (Nat.le_refl _)
  rw [List.take_length] at h
  have := z.hl
  unfold lrnI; split
  · exact ⟨by omega, h.2⟩
  · simp
theorem lrnI_len {v : Int} {cs : List (List Int)} {steps : List Step} (z : Sz cs steps) : (lrnI v cs steps).length ≤ 4294967296 := (lrnI_fine z).1
theorem lrnI_len2 {v : Int} {cs : List (List Int)} {steps : List Step} (z : Sz cs steps) : ∀ x ∈ lrnI v cs steps, x.length ≤ 1048576 := (lrnI_fine z).2
end Abs.Y
