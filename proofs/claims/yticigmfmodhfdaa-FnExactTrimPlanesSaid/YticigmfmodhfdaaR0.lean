/- What functions of this program compute, as contracts over plain data, with what the proofs need of them. No condition. -/
import Derived.Test.YticigmfmodhfdaaK0
import Derived.Test.YticigmfmodhfdaaAbsLoop
set_option linter.all false
namespace Abs.Y
open Go Go.Proofs Abs
set_option maxRecDepth 100000

/-! ### Flags from the end on: what the last one needs, ps telling what each uses -/
def markF (l : List Bool) (ps : List Int) : List Bool := ps.foldl (fun l k => l.set k.toNat true) l
/-- Is the step behind k rounds looked at? -/
def onR (_ps : Nat → List Int) (n : Nat) (l : List Bool) (q : Nat) : Bool := decide (q = n - 1) || l.getD q false
def rF (ps : Nat → List Int) (n : Nat) : Nat → List Bool
  | 0 => List.replicate n false
  | k + 1 => if onR ps n (rF ps n k) (n - 1 - k) then markF (rF ps n k) (ps (n - 1 - k)) else rF ps n k
/-- The steps looked at, the last first. -/
def rL (ps : Nat → List Int) (n : Nat) : Nat → List Int
  | 0 => []
  | k + 1 => if onR ps n (rF ps n k) (n - 1 - k) then rL ps n k ++ [((n - 1 - k : Nat) : Int)] else rL ps n k
theorem markF_len (ps : List Int) : ∀ l : List Bool, (markF l ps).length = l.length := by
  induction ps with
  | nil => intro l; rfl
  | cons p r ih => intro l; simp only [markF, List.foldl_cons] at *; rw [ih]; simp
theorem rF_len (ps : Nat → List Int) (n : Nat) : ∀ k, (rF ps n k).length = n
  | 0 => by simp [rF]
  | k + 1 => by
    simp only [rF]; split
    · rw [markF_len, rF_len ps n k]
    · exact rF_len ps n k
theorem rL_len (ps : Nat → List Int) (n : Nat) : ∀ k, (rL ps n k).length ≤ k
  | 0 => by simp [rL]
  | k + 1 => by
    have := rL_len ps n k
    simp only [rL]; split
    · simp; omega
    · omega
/-- A number that is no premise keeps its flag. -/
theorem markF_get (ps : List Int) (q : Nat) (h : ∀ p ∈ ps, p.toNat ≠ q) : ∀ l : List Bool, (markF l ps).getD q false = l.getD q false := by
  induction ps with
  | nil => intro l; rfl
  | cons p r ih =>
    intro l
    simp only [markF, List.foldl_cons] at *
    rw [ih fun x hx => h x (by simp [hx])]
    have := h p (by simp)
    simp only [List.getD_eq_getElem?_getD, List.getElem?_set]
    rw [if_neg this]
/-- Behind its round a step's flag stays. -/
theorem rF_stay (ps : Nat → List Int) (n : Nat) (hf : ∀ k, k < n → (∀ p ∈ ps k, 0 ≤ p ∧ p < k)) (k : Nat) : ∀ m, k ≤ m → m ≤ n → ∀ q, n ≤ q + k + 1 → (rF ps n m).getD q false = (rF ps n k).getD q false := by
  intro m hkm
  induction hkm with
  | refl => intros; rfl
  | step h ih =>
    rename_i m
    intro hm q hq
    rw [← ih (by omega) q hq]
    simp only [rF]
    split
    · refine markF_get _ _ (fun p hp => ?_) _
      have := hf (n - 1 - m) (by omega) p hp
      simp only [Nat.le_eq] at h
      omega
    · rfl
def onE (ps : Nat → List Int) (n : Nat) (q : Nat) : Bool := onR ps n (rF ps n n) q
theorem onE_eq (ps : Nat → List Int) (n : Nat) (hf : ∀ k, k < n → (∀ p ∈ ps k, 0 ≤ p ∧ p < k)) (k : Nat) (hk : k < n) : onR ps n (rF ps n k) (n - 1 - k) = onE ps n (n - 1 - k) := by
  unfold onE onR
  rw [rF_stay ps n hf k n (by omega) (Nat.le_refl _) _ (by omega)]
/-- The needed steps in order. -/
def rI (ps : Nat → List Int) (n : Nat) : List Int := ((List.range n).filter (onE ps n)).map fun q : Nat => (q : Int)
theorem rL_eq (ps : Nat → List Int) (n : Nat) (hf : ∀ k, k < n → (∀ p ∈ ps k, 0 ≤ p ∧ p < k)) : ∀ k, k ≤ n → (rL ps n k).reverse = (((List.range' (n - k) k).filter (onE ps n)).map fun q : Nat => (q : Int))
  | 0, _ => by simp [rL]
  | k + 1, h => by
    have ih := rL_eq ps n hf k (by omega)
    have e : List.range' (n - (k + 1)) (k + 1) = (n - 1 - k) :: List.range' (n - k) k := by
      rw [List.range'_succ, show n - (k + 1) = n - 1 - k by omega, show n - 1 - k + 1 = n - k by omega]
    rw [e]
    simp only [rL, onE_eq ps n hf k (by omega), List.filter_cons]
    split
    · rw [List.reverse_append, ih]; rfl
    · exact ih
theorem rL_rev (ps : Nat → List Int) (n : Nat) (hf : ∀ k, k < n → (∀ p ∈ ps k, 0 ≤ p ∧ p < k)) : (rL ps n n).reverse = rI ps n := by
  rw [rL_eq ps n hf _ (Nat.le_refl _), Nat.sub_self, ← List.range_eq_range']; rfl
theorem set_true_comm (l : List Bool) (a b : Nat) : (l.set a true).set b true = (l.set b true).set a true := by
  by_cases h : a = b
  · subst h; rfl
  · exact List.set_comm _ _ h
theorem markF_set (ps : List Int) (a : Nat) : ∀ l : List Bool, markF (l.set a true) ps = (markF l ps).set a true := by
  induction ps with
  | nil => intro l; rfl
  | cons p r ih =>
    intro l
    simp only [markF, List.foldl_cons] at *
    rw [set_true_comm, ih]
/-- The reference's flags behind k rounds: the last step's is up. -/
def rG (ps : Nat → List Int) (n : Nat) (k : Nat) : List Bool := (rF ps n k).set (n - 1) true
theorem rG_len (ps : Nat → List Int) (n : Nat) (k : Nat) : (rG ps n k).length = n := by simp [rG, rF_len]
theorem rG_get (ps : Nat → List Int) (n : Nat) (k q : Nat) (h : q < n) : (rG ps n k).getD q false = onR ps n (rF ps n k) q := by
  unfold rG onR
  rw [set_getDz false _ _ _ _ (by rw [rF_len]; omega)]
  by_cases e : q = n - 1 <;> simp [e]
theorem rG_succ (ps : Nat → List Int) (n : Nat) (k : Nat) (h : k < n) : rG ps n (k + 1) = if (rG ps n k).getD (n - 1 - k) false then markF (rG ps n k) (ps (n - 1 - k)) else rG ps n k := by
  rw [rG_get ps n k _ (by omega)]
  unfold rG
  simp only [rF]
  split
  · rw [markF_set]
  · rfl
def rT (ps : Nat → List Int) (n : Nat) (k : Nat) : List Int := ((List.range k).filter (onE ps n)).map fun q : Nat => (q : Int)
theorem rT_succ (ps : Nat → List Int) (n : Nat) (k : Nat) : rT ps n (k + 1) = if onE ps n k then rT ps n k ++ [(k : Int)] else rT ps n k := by
  unfold rT
  rw [List.range_succ, List.filter_append, List.map_append]
  cases h : onE ps n k <;> simp [h]
theorem rT_len (ps : Nat → List Int) (n : Nat) (k : Nat) : (rT ps n k).length ≤ k := by
  have := List.length_filter_le (onE ps n) (List.range k)
  simpa [rT] using this
theorem onE_get (ps : Nat → List Int) (n : Nat) (k : Nat) (h : k < n) : el ((rG ps n n).map .bool) k = .bool (onE ps n k) := by
  rw [el_map (f := D.bool) false (by rw [rG_len]; exact h), rG_get _ _ _ _ h]; rfl
end Abs.Y
