/- What functions of this program compute, as contracts over plain data, with what the proofs need of them. No condition. -/
import Derived.Test.YtjmniloahfncbaaG7
set_option linter.all false
namespace Abs.Y
open Go Go.Proofs Abs
set_option maxRecDepth 100000

/-- The first number below n that is told. -/
def idxR (p : Nat → Bool) (n : Nat) : Int := match (List.range n).find? p with | some k => (k : Nat) | none => -1
theorem idxR_some {p : Nat → Bool} {n k : Nat} (hk : k < n) (h : p k = true) (hn : ∀ j, j < k → p j = false) : idxR p n = k := by
  have : (List.range n).find? p = some k := by
    rw [List.find?_range_eq_some]
    exact ⟨h, by simpa using hk, fun j hj => by simp [hn j hj]⟩
  rw [idxR, this]
theorem idxR_none {p : Nat → Bool} {n : Nat} (hn : ∀ j, j < n → p j = false) : idxR p n = -1 := by
  have : (List.range n).find? p = none := by
    rw [List.find?_range_eq_none]
    exact fun j hj => by simp [hn j hj]
  rw [idxR, this]
def wrongI (v : Int) (cs : List (List Int)) (steps : List Step) : Int := idxR (fun k => !correctI v cs steps k) steps.length
/-- Sizes that the machine takes. -/
structure Sz (cs : List (List Int)) (steps : List Step) : Prop where
  hl : steps.length ≤ 1048576
  hs : ∀ j, (steps.getD j Step.z).c.length ≤ 1048576
  hcl : cs.length ≤ 1048576
  hc : ∀ j, (cs.getD j []).length ≤ 1048576
theorem Sz.hc' {cs steps} (z : Sz cs steps) : ∀ j, (cs.getD j []).length ≤ 4294967296 := fun j => Nat.le_trans (z.hc j) (by omega)
theorem Sz.hcl' {cs steps} (z : Sz cs steps) : cs.length ≤ 4294967296 := Nat.le_trans z.hcl (by omega)
def askedI (v : Int) (cs : List (List Int)) (steps : List Step) : Bool := decide (steps.length ≤ 200) && okCnf v cs
def goodI (v : Int) (cs : List (List Int)) (steps : List Step) : Bool := askedI v cs steps && decide (wrongI v cs steps < 0)
end Abs.Y
