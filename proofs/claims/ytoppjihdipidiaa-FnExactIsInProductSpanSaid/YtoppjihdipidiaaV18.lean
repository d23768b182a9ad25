/- What functions of this program compute, as contracts over plain data, with what the proofs need of them. No condition. -/
import Derived.Test.YtoppjihdipidiaaD10
import Derived.Test.YtoppjihdipidiaaD5
import Derived.Test.YtoppjihdipidiaaC4
set_option linter.all false
namespace Abs.Y
open Go Go.Proofs Abs
open Nat renaming reduceEqDiff → zqa, reduceLT → zqb, reduceAdd → zqc, reduceMul → zqd, reduceSub → zqe, reduceLeDiff → zqf, reduceSubDiff → zqg, reduceBEq → zqh
open Bool renaming not_eq_true' → zba, not_eq_false' → zbb, and_eq_true → zbc, or_eq_true → zbd, or_eq_false_iff → zbe
open Int renaming ofNat_lt → zia, ofNat_le → zib, not_lt → zic, not_le → zid
open Decidable renaming not_not → zda
set_option maxRecDepth 100000

theorem degreeOk_ok (d : Int) : Ctr Try.prog 73 [.int .i64 d] false (.d (.bool (degB d))) [] := by
  have c1 := within_ok d 0 6
  unfold degB
  refine Ctr.of (n := 5) (rs := [.tmp 2]) Try.func73 rfl rfl Try.ntmps73 rfl rfl (by kernel_rfl) Try.checked.mixed ?_
  simp (disch := first | omega | decide +kernel) only [go_sem, zqa, zqb, zqc, zqd, zqe, ↓reduceIte, reduceCtorEq, zqf, zqg, zqh]
  (repeat' (first | ((first | (refine gsel_split (fun q' => ?_) (fun q' => ?_) <;> (have h' := q') <;> (try simp only [decide_eq_true_eq, decide_eq_false_iff_not, zba, zbb, bne_iff_ne, ne_eq, beq_iff_eq, bne_eq_false_iff_eq, beq_eq_false_iff_ne, zia, zib, zic, zid, zda, zbc, zbd, zbe, gt_iff_lt, ge_iff_le] at h') <;> try (exfalso; omega)) | (have q' := trivial; first | refine callX_new (c1) rfl (by decide) ?_ | refine callY_new (c1) rfl ?_ | refine hE _ _ ret_ne ?_ | refine hE _ _ exit_ne ?_)) <;> (try simp (disch := first | omega | decide +kernel) only [q', go_sem, zqa, zqb, zqc, zqd, zqe, ↓reduceIte, reduceCtorEq, zqf, zqg, zqh]) <;> clear q') | (refine hN _ ?_ ?_ Wk.kk) | (with_reducible refine And.intro ?_ ?_) | (with_reducible omega) | (exact ok_ints) | (exact cells_ints) | (exact no_mem) | (with_reducible exact plain_ints) | (refine le_maxLen ?_; omega) | (refine List.forall_mem_cons.2 ⟨?_, ?_⟩) | (simp only [go_sem, zqc, zqb, List.mem_cons, List.not_mem_nil, forall_eq]; done)))
  all_goals (first | omega)
theorem redQ_zero {p : Int} {u : Nat} {R M : List (List Int)} {many : Nat} {a : List Int} (hp : 0 < p) (h : Ech p (2 ^ u) ldG R) (ha : Vec p (2 ^ u) a) {t : Bool} (ht : t = true ↔ Sp p (2 ^ u) R a) : decide (degD (redQ p R M a many R.length).1 < 0) = t := by
  have h1 := (redQ_vec hp (M := M) (many := many) h.vec ha R.length (Nat.le_refl _)).1
  have h2 := redQ_red hp (M := M) (many := many) h.vec ha R.length (Nat.le_refl _)
  rw [List.take_length] at h2
  have key : degD (redQ p R M a many R.length).1 < 0 ↔ t = true := by
    rw [← deg_eq, degT_neg, spT_nil, ldI_neg, ← vec_zero_iff (p := p) h1.1, h2, red_iff hp ldG h.vec h.tri ha, ht]
  cases t with
  | true => exact decide_eq_true (key.2 rfl)
  | false => exact decide_eq_false fun e => by cases key.1 e
section
variable {p : Int} {u : Nat} (hp : 1 < p ∧ p ≤ 5) (hu : u ≤ 6)
include hp hu
end
end Abs.Y

namespace Abs.Y
open Go Go.Proofs Abs
open Nat renaming reduceEqDiff → zqa, reduceLT → zqb, reduceAdd → zqc, reduceMul → zqd, reduceSub → zqe, reduceLeDiff → zqf, reduceSubDiff → zqg, reduceBEq → zqh
open Bool renaming not_eq_true' → zba, not_eq_false' → zbb, and_eq_true → zbc, or_eq_true → zbd, or_eq_false_iff → zbe
open Int renaming ofNat_lt → zia, ofNat_le → zib, not_lt → zic, not_le → zid
open Decidable renaming not_not → zda
set_option maxRecDepth 100000

def degC (cs : List (List Int)) (list : List (List (Int × Int))) (k : Nat) : Int :=
  (List.range k).foldl (fun d i => if list.getD i [] = [] then d else max d (degT (list.getD i []) + ((cs.getD i []).length : Int))) 0
def certB (p v : Int) (cs : List (List Int)) (list : List (List (Int × Int))) : Bool := goodL p v cs list && decide (sumC p v.toNat cs list list.length = monoD v.toNat 0)
def certV (p v : Int) (cs : List (List Int)) (list : List (List (Int × Int))) : Int := if certB p v cs list then degC cs list list.length else 0
end Abs.Y

namespace Abs.Y
open Go Go.Proofs Abs
open Nat renaming reduceEqDiff → zqa, reduceLT → zqb, reduceAdd → zqc, reduceMul → zqd, reduceSub → zqe, reduceLeDiff → zqf, reduceSubDiff → zqg, reduceBEq → zqh
open Bool renaming not_eq_true' → zba, not_eq_false' → zbb, and_eq_true → zbc, or_eq_true → zbd, or_eq_false_iff → zbe
open Int renaming ofNat_lt → zia, ofNat_le → zib, not_lt → zic, not_le → zid
open Decidable renaming not_not → zda
set_option maxRecDepth 100000

end Abs.Y
