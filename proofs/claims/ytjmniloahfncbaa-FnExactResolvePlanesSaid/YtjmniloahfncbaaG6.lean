/- What functions of this program compute, as contracts over plain data, with what the proofs need of them. No condition. -/
import Derived.Test.YtjmniloahfncbaaG5d
set_option linter.all false
namespace Abs.Y
open Go Go.Proofs Abs
set_option maxRecDepth 100000

/-- A new slice and data, read as data. -/
theorem Ctr.data2 {P : Program} {f : FuncId} {xs : List D} {e : TypeId} {k : Nat} {es : List D} {y : D} (h : Ctr P f xs false (.tup [.sl 0, .d y]) [(0, .arr e k es)]) : Ctr P f xs true (.d (.tup [.slice es, y])) [] := by
  refine ⟨h.1, fun S w vs hl hr => (h.2 S w vs hl hr).mono fun en w' ⟨v, he, hf, β, φ, hrel, hobj, hown, hdis⟩ => ⟨v, he, hf, β, φ, .d ?_, by simp [lk], by simp [lk], by simp [lk]⟩⟩
  cases hrel with
  | tup hl' hr' =>
    rename_i us
    match us, hl' with
    | [u0, u1], _ =>
      have h0 := hr' 0 (by simp)
      have h1 := hr' 1 (by simp)
      simp only [List.getD_cons_zero, List.getD_cons_succ] at h0 h1
      cases h0
      cases h1 with
      | d h1 =>
        refine Rd.tup rfl fun i hi => ?_
        match i, hi with
        | 0, _ =>
          simp only [List.getD_cons_zero]
          exact rd_of_arr (hobj 0 (.arr e k es) (by simp [lk])) (fun g hg _ => ⟨hg.1.imp id fun h => (by simp at h), by simp [lk]⟩) fun g hg => ⟨.inl (hown 0 (.arr e k es) g (by simp [lk]) hg), by simp [lk]⟩
        | 1, _ =>
          simp only [List.getD_cons_zero, List.getD_cons_succ]
          exact h1.weaken fun g hg => ⟨hg.1.imp id fun h => (by simp at h), by simp [lk]⟩

/-- A step of a list is correct. -/
def correctI (v : Int) (cs : List (List Int)) (steps : List Step) (k : Nat) : Bool :=
  okClause v (steps.getD k Step.z).c &&
  (if (steps.getD k Step.z).l = -1 then decide ((steps.getD k Step.z).p = 0) && (decide (0 ≤ (steps.getD k Step.z).r) && decide ((steps.getD k Step.z).r ≤ cs.length - 1)) && decide (cs.getD (steps.getD k Step.z).r.toNat [] = (steps.getD k Step.z).c)
   else okEarlier v steps k (steps.getD k Step.z).l &&
     (if (steps.getD k Step.z).r = -1 then decide ((steps.getD k Step.z).p = 0) && subI (steps.getD (steps.getD k Step.z).l.toNat Step.z).c (steps.getD k Step.z).c
      else (okEarlier v steps k (steps.getD k Step.z).r && (decide (1 ≤ (steps.getD k Step.z).p) && decide ((steps.getD k Step.z).p ≤ v))) &&
        ((resolveI (steps.getD (steps.getD k Step.z).l.toNat Step.z).c (steps.getD (steps.getD k Step.z).r.toNat Step.z).c (steps.getD k Step.z).p).isSome &&
          decide (optL (resolveI (steps.getD (steps.getD k Step.z).l.toNat Step.z).c (steps.getD (steps.getD k Step.z).r.toNat Step.z).c (steps.getD k Step.z).p) = (steps.getD k Step.z).c))))
theorem joinI_length : ∀ (b a : List Int), (optL (joinI a b)).length ≤ a.length + b.length
  | [], a => by simp [joinI, optL]
  | y :: r, a => by
    rw [joinI]
    split
    · simp [optL]
    · have := joinI_length r (if (a.any (· == y)) = true then a else putI a y)
      have h : (if (a.any (· == y)) = true then a else putI a y).length ≤ a.length + 1 := by split <;> simp [length_putI]
      simp only [List.length_cons]; omega
theorem resolveI_length (a b : List Int) (v : Int) : (optL (resolveI a b v)).length ≤ a.length + b.length := by
  rw [resolveI]
  split
  · have h1 := joinI_length (b.filter fun l => varI l != v) (a.filter fun l => varI l != v)
    have h2 := List.length_filter_le (fun l => varI l != v) a
    have h3 := List.length_filter_le (fun l => varI l != v) b
    omega
  · simp [optL]
theorem okEarlier_lt {v : Int} {steps : List Step} {k : Nat} {i : Int} (h : okEarlier v steps k i = true) : 0 ≤ i ∧ i.toNat < k ∧ okClause v (steps.getD i.toNat Step.z).c = true := by
  simp only [okEarlier, Bool.and_eq_true, decide_eq_true_eq] at h
  exact ⟨h.1.1, by omega, h.2⟩
end Abs.Y
