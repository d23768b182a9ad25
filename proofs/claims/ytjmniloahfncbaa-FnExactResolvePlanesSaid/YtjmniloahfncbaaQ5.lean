/- What functions of this program compute, as contracts over plain data, with what the proofs need of them. No condition. -/
import Derived.Test.YtjmniloahfncbaaQ4
set_option linter.all false
namespace Abs.Y
open Go Go.Proofs Abs
set_option maxRecDepth 100000

/-! ### The steps of a correct list -/
theorem idxR_neg {p : Nat → Bool} {n : Nat} (h : idxR p n < 0) : ∀ j, j < n → p j = false := by
  unfold idxR at h
  cases hf : (List.range n).find? p with
  | some k => rw [hf] at h; simp at h; omega
  | none => rw [List.find?_range_eq_none] at hf; exact fun j hj => by simpa using hf j hj
theorem idxR_ge (p : Nat → Bool) (n : Nat) : idxR p n = -1 ∨ ∃ k, k < n ∧ idxR p n = (k : Nat) ∧ p k = true := by
  unfold idxR
  cases hf : (List.range n).find? p with
  | some k => rw [List.find?_range_eq_some] at hf; exact .inr ⟨k, by simpa using hf.2.1, rfl, hf.1⟩
  | none => exact .inl rfl
/-- What a correct step tells of its premises. -/
def FineS (steps : List Step) (k : Nat) : Prop :=
  (steps.getD k Step.z).l = -1 ∨ (0 ≤ (steps.getD k Step.z).l ∧ (steps.getD k Step.z).l < k ∧ ((steps.getD k Step.z).r = -1 ∨ (0 ≤ (steps.getD k Step.z).r ∧ (steps.getD k Step.z).r < k)))
theorem fine_of {v : Int} {cs : List (List Int)} {steps : List Step} (h : goodI v cs steps = true) : ∀ k, k < steps.length → FineS steps k := by
  intro k hk
  simp only [goodI, Bool.and_eq_true, decide_eq_true_eq] at h
  have hc := idxR_neg (show idxR (fun k => !correctI v cs steps k) steps.length < 0 from h.2) k hk
  simp only [Bool.not_eq_false'] at hc
  simp only [correctI, Bool.and_eq_true] at hc
  have hc := hc.2
  unfold FineS
  by_cases hl : (steps.getD k Step.z).l = -1
  · exact .inl hl
  · rw [if_neg hl] at hc
    simp only [Bool.and_eq_true] at hc
    have h1 := okEarlier_lt hc.1
    refine .inr ⟨h1.1, by omega, ?_⟩
    by_cases hr : (steps.getD k Step.z).r = -1
    · exact .inl hr
    · have hc2 := hc.2
      rw [if_neg hr] at hc2
      simp only [Bool.and_eq_true] at hc2
      have h2 := okEarlier_lt hc2.1.1
      exact .inr ⟨h2.1, by omega⟩
theorem fine_proof {v : Int} {cs : List (List Int)} {steps : List Step} (h : proofI v cs steps = true) : ∀ k, k < steps.length → FineS steps k := by
  simp only [proofI, Bool.and_eq_true] at h
  exact fine_of h.1
/-! ### Kinds of steps -/
/-! ### The bound for a plane proof -/
def planeG (steps : List Step) (s : Step) : Int :=
  if s.l < 0 then 1 else if s.r < 0 then 2 * ((s.c.length : Int) - ((steps.getD s.l.toNat Step.z).c.length : Int)) else 2 + 2 * (s.c.length : Int)
def planeL (steps : List Step) (a : List Step) (w : Int) : Int := a.foldl (fun w s => w + planeG steps s) w
theorem planeL_drop {steps : List Step} {i : Nat} (h : i < steps.length) (w : Int) : planeL steps (steps.drop i) w = planeL steps (steps.drop (i + 1)) (w + planeG steps (steps.getD i Step.z)) := by
  rw [drop_cons Step.z steps i h]; rfl
theorem planeL_end {steps : List Step} {i : Nat} (h : steps.length ≤ i) (w : Int) : planeL steps (steps.drop i) w = w := by
  rw [List.drop_eq_nil_of_le h]; rfl
def planeI (v : Int) (cs : List (List Int)) (steps : List Step) : Int := if proofI v cs steps then planeL steps steps 0 else 0
theorem planeG_bound {cs : List (List Int)} {steps : List Step} (z : Sz cs steps) (i : Nat) : -4194304 ≤ planeG steps (steps.getD i Step.z) ∧ planeG steps (steps.getD i Step.z) ≤ 4194304 := by
  have h1 := z.hs i
  have h2 := z.hs (steps.getD i Step.z).l.toNat
  unfold planeG
  split
  · omega
  · split <;> omega
end Abs.Y
