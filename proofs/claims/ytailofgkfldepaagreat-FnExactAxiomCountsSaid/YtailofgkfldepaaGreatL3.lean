/- What functions of this program compute, as contracts over plain data, with what the proofs need of them. No condition. -/
import Derived.Test.YtailofgkfldepaaGreatL2
import Derived.Test.YtailofgkfldepaaGreatG8
import Derived.Test.YtailofgkfldepaaGreatK0
set_option linter.all false
namespace Abs.Y
open Go Go.Proofs Abs
set_option maxRecDepth 100000

/-! ### The arguments of the laws, as data -/
theorem r_cnf {x : D} (h : isSt [isI64, isSl (isSl isI64)] x) : ∃ (v : Int) (a : List (List Int)), x = .agg [.int .i64 v, .slice (a.map D.ints)] ∧ a.length ≤ 9223372036854775807 ∧ ∀ y ∈ a, y.length ≤ 9223372036854775807 := by
  obtain ⟨es, rfl, hl, he⟩ := h
  match es, hl with
  | [e0, e1], _ =>
    obtain ⟨v, hv, _⟩ := he 0 (by simp)
    obtain ⟨a, ha, h1, h2⟩ := r_intss (he 1 (by simp))
    simp only [List.getD_cons_zero, List.getD_cons_succ] at hv ha
    subst hv; subst ha
    exact ⟨v, a, rfl, h1, h2⟩
theorem r_step {x : D} (h : isSt [isSl isI64, isI64, isI64, isI64] x) : ∃ s : Step, x = D.step s ∧ s.c.length ≤ 9223372036854775807 := by
  obtain ⟨es, rfl, hl, he⟩ := h
  match es, hl with
  | [e0, e1, e2, e3], _ =>
    obtain ⟨a, ha, h1⟩ := r_ints (he 0 (by simp))
    obtain ⟨l, hl, _⟩ := he 1 (by simp)
    obtain ⟨r, hr, _⟩ := he 2 (by simp)
    obtain ⟨p, hp, _⟩ := he 3 (by simp)
    simp only [List.getD_cons_zero, List.getD_cons_succ] at ha hl hr hp
    subst ha; subst hl; subst hr; subst hp
    exact ⟨⟨a, l, r, p⟩, rfl, h1⟩
theorem r_steps {x : D} (h : isSl (isSt [isSl isI64, isI64, isI64, isI64]) x) : ∃ a : List Step, x = .slice (a.map D.step) ∧ a.length ≤ 9223372036854775807 ∧ ∀ s ∈ a, s.c.length ≤ 9223372036854775807 := by
  obtain ⟨es, rfl, hl, he⟩ := h
  obtain ⟨a, rfl, ha⟩ := map_ex D.step he fun e h => r_step h
  exact ⟨a, rfl, by rw [maxLen_eq] at hl; simpa using hl, ha⟩
def stepF (s : Step) (left : Int) : Int := szI s.c left
theorem stepF_szF : SzF stepF := fun s left h => szI_szF s.c left h
theorem szRS_ok (a : List Step) (left : Int) (hl : a.length ≤ 9223372036854775807) (hx : ∀ x ∈ a, x.c.length ≤ 9223372036854775807) (h1 : 0 ≤ left ∧ left ≤ 1048576) : Ctr Tryz.prog 7 [.slice (a.map D.step), .int .i64 left] false (.d (.int .i64 (szS stepF a left))) [] :=
  szResStepS_ok a left hl hx h1
/-- What both sizes leave: small lists. -/
theorem sz_both {cs : List (List Int)} {steps : List Step} (h1 : 0 ≤ szS szI cs 1048576) (h2 : 0 ≤ szS stepF steps (szS szI cs 1048576)) :
    Sz cs steps ∧ (∀ x ∈ cs, x.length ≤ 4294967296) ∧ ∀ s ∈ steps, s.c.length ≤ 4294967296 := by
  have e1 := szS_szF szI_szF cs 1048576 (by omega)
  have l1 := szS_len h1
  have l2 := szS_len h2
  have x1 : ∀ x ∈ cs, x.length ≤ 1048576 := fun x hx => by
    obtain ⟨y, h3, h4, h5⟩ := szS_each szI_szF h1 x hx
    have := szI_len h5; omega
  have x2 : ∀ s ∈ steps, s.c.length ≤ 1048576 := fun s hs => by
    obtain ⟨y, h3, h4, h5⟩ := szS_each stepF_szF h2 s hs
    have := szI_len h5; omega
  refine ⟨⟨by omega, fun j => ?_, by omega, fun j => ?_⟩, fun x hx => Nat.le_trans (x1 x hx) (by omega), fun s hs => Nat.le_trans (x2 s hs) (by omega)⟩
  · by_cases hj : j < steps.length
    · exact x2 _ (getD_mem hj)
    · rw [List.getD_eq_getElem?_getD, List.getElem?_eq_none (by omega)]; simp [Step.z]
  · by_cases hj : j < cs.length
    · exact x1 _ (getD_mem hj)
    · rw [List.getD_eq_getElem?_getD, List.getElem?_eq_none (by omega)]; simp
end Abs.Y
