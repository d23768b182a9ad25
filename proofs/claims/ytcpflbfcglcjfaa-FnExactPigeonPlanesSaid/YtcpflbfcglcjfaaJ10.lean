/- What functions of this program compute, as contracts over plain data, with what the proofs need of them. No condition. -/
import Derived.Test.YtcpflbfcglcjfaaL2
import Derived.Test.YtcpflbfcglcjfaaT14
set_option linter.all false
namespace Abs.Y
open Go Go.Proofs Abs
open Nat renaming reduceEqDiff → zqa, reduceLT → zqb, reduceAdd → zqc, reduceMul → zqd, reduceSub → zqe, reduceLeDiff → zqf, reduceSubDiff → zqg, reduceBEq → zqh
open Bool renaming not_eq_true' → zba, not_eq_false' → zbb, and_eq_true → zbc, or_eq_true → zbd, or_eq_false_iff → zbe
open Int renaming ofNat_lt → zia, ofNat_le → zib, not_lt → zic, not_le → zid
open Decidable renaming not_not → zda
set_option maxRecDepth 100000

theorem lenPS_bd {a : List PSt} {B : Nat} (h : ∀ x ∈ a, x.q.co.length ≤ B) : lenPS a ≤ a.length * (B + 5) := by
  induction a with
  | nil => simp [lenPS]
  | cons x r ih =>
    have h1 := h x (by simp)
    have h2 := ih fun y hy => h y (by simp [hy])
    rw [lenPS, List.length_cons, Nat.add_mul]; omega
set_option maxHeartbeats 4000000 in
theorem law_HoleSteps : ∀ xs, AllR [isI64, isI64] xs → Ctr Try.prog 3 xs false (.d (.bool true)) [] := by
  intro xs hx
  obtain ⟨x0, ys, rfl, h0, hx⟩ := allR_cons hx
  obtain ⟨x1, ys, rfl, h1, hx⟩ := allR_cons hx
  obtain rfl := allR_nil hx
  obtain ⟨n, rfl, _⟩ := h0
  obtain ⟨j, rfl, _⟩ := h1
  have c1 := specHS_ok n j
  have c2 := implHS_ok n j
  obtain ⟨hR, hRx⟩ := hsV_bd n j
  generalize hsV n j = R at *
  generalize okHS n j = B at *
  have hls := lenPS_bd hRx
  have q0 := eqPlaneStepS_ok R R (by omega) (fun x hx => Nat.le_trans (hRx x hx) (by omega))
  have m3 := fun τ => markPlaneStepS_ok τ R 1 (by omega) (by omega) (by omega)
  have hh := heldPlaneStepS_ok R 1 (by omega) (by omega) (by omega)
  refine Ctr.of (n := 68) (rs := [.tmp 4]) Try.func3 rfl rfl Try.ntmps3 rfl rfl (by kernel_rfl) Try.checked.mixed ?_
  simp (disch := first | omega | decide +kernel) only [go_sem, zqa, zqb, zqc, zqd, zqe, ↓reduceIte, reduceCtorEq, zqf, zqg, zqh]
  refine callX_shared c1 rfl (by decide) ?_
  simp (disch := first | omega | decide +kernel) only [go_sem, zqa, zqb, zqc, zqd, zqe, ↓reduceIte, reduceCtorEq, zqf, zqg, zqh]
  (repeat' (first | ((first | (refine gsel_split (fun q' => ?_) (fun q' => ?_) <;> (have h' := q') <;> (try simp only [decide_eq_true_eq, decide_eq_false_iff_not, zba, zbb, bne_iff_ne, ne_eq, beq_iff_eq, bne_eq_false_iff_eq, beq_eq_false_iff_ne, zia, zib, zic, zid, zda, zbc, zbd, zbe, gt_iff_lt, ge_iff_le] at h')) | (have q' := trivial; first | refine callX_new (c2) rfl (by decide) ?_ | refine callY_new (c2) rfl ?_ | refine callX_new (q0) rfl (by decide) ?_ | refine callY_new (q0) rfl ?_ | refine callX_keep _ (m3 _) ⟨.inl rfl, .inl rfl, trivial⟩ rfl (by simp [dstB]) ?_ | refine callX_new (hh) rfl (by decide) ?_ | refine callY_new (hh) rfl ?_ | refine callX_shared (c1) rfl (by decide) ?_ | refine callY_shared (c1) rfl ?_ | refine hE _ _ ret_ne ?_ | refine hE _ _ exit_ne ?_)) <;> (try simp (disch := first | omega | decide +kernel) only [q', go_sem, zqa, zqb, zqc, zqd, zqe, ↓reduceIte, reduceCtorEq, zqf, zqg, zqh]) <;> clear q') | (refine hN _ ?_ ?_ Wk.kk) | (with_reducible refine And.intro ?_ ?_) | (with_reducible omega) | (exact ok_ints) | (exact cells_ints) | (exact no_mem) | (with_reducible exact plain_ints) | (refine le_maxLen ?_; omega) | (refine List.forall_mem_cons.2 ⟨?_, ?_⟩) | (simp only [go_sem, zqc, zqb, List.mem_cons, List.not_mem_nil, forall_eq]; done)))
  all_goals (first | exact absurd trivial h' | omega)
end Abs.Y
