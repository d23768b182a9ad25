/- The law FnExactNeededSteps returns true whatever its arguments, and leaves them as they were: the given statement. No condition. -/
import Derived.Test.YtailofgkfldepaaGreatRows
import Derived.Test.YtailofgkfldepaaGreatN3
import Derived.ProofKit
import Derived.OpenShut
namespace Go.Proofs.YtailofgkfldepaaGreat
open Go Go.Proofs Abs Abs.Y Go.RowKit Go.ChangeShapes Go.WideShapes Go.ChangeAt
set_option linter.all false
set_option maxRecDepth 100000
theorem fnExactNeededSteps_own : ownKnob Tryz.prog.godebug = none := by kernel_rfl
theorem fnExactNeededSteps_laid : laidOutB Tryz.prog = true := by kernel_rfl
theorem fnExactNeededSteps_args : OpA Tryz.prog Tryz.f5.params.toList [(isSt [isI64, (isSl (isSl isI64))]), (isSl (isSt [(isSl isI64), isI64, isI64, isI64]))] := by
  rw [Tryz.params5]
  exact (OpA.cons (opV_agg Tryz.underlying24 (opF_tot (.cons (by kernel_rfl) (opC_int Tryz.underlying3 Ty.c3) (.cons (by kernel_rfl) (opC_slice Tryz.underlying22 Ty.c22 (by rw [Ty.c39]; decide) (opC_slice Tryz.underlying39 Ty.c39 (by rw [Ty.c3]; decide) (opC_int Tryz.underlying3 Ty.c3))) (OpF.nil _))) (by kernel_rfl))) (OpA.cons (opV_slice Tryz.underlying25 (opC_slice Tryz.underlying25 Ty.c25 (by rw [Ty.c47]; decide) (opC_struct Tryz.underlying47 (opF_tot (.cons (by kernel_rfl) (opC_slice Tryz.underlying39 Ty.c39 (by rw [Ty.c3]; decide) (opC_int Tryz.underlying3 Ty.c3)) (.cons (by kernel_rfl) (opC_int Tryz.underlying3 Ty.c3) (.cons (by kernel_rfl) (opC_int Tryz.underlying3 Ty.c3) (.cons (by kernel_rfl) (opC_int Tryz.underlying3 Ty.c3) (OpF.nil _))))) (by kernel_rfl))))) OpA.nil))
theorem fnExactNeededSteps_lifted (os : Os) (started : os.Started) (H : Type) (enc : TypeId × Value → H) :
    ReturnsInHanded {} Tryz.checked os 5 .any (Rows.fnExactNeededStepsSpec.pre6 enc Tryz.prog Tryz.f5 Rows.fnExactNeededStepsRow.domain false) (Rows.fnExactNeededStepsSpec.post enc Tryz.prog Tryz.f5 false true false false) := by
  refine returnsInHanded_of_change (C := Tryz.checked) fnExactNeededSteps_own started (by kernel_rfl) Tryz.func5
    (ChangeSpec.witness6 (enc := enc) (C := Tryz.checked) false ⟨#[], #[.agg #[.int .i64 0, .slice none 0 0], .slice none 0 0], []⟩ 8 (by kernel_rfl) (by kernel_rfl) (by kernel_rfl) (by kernel_rfl)) ?_
  intro W base args ds gs before hval0 hW hcnd _
  have hW' := hW
  obtain ⟨p, q, hA0, hV, rfl, hfz, hnd⟩ := hW
  have hA : DataW.TrodAll enc Tryz.prog W 0 (fun _ => true) true Tryz.f5.params.toList args.toList ds p := hA0
  have hbase : ∀ (j : Nat) t v, Tryz.f5.params.toList[j]? = some t → args.toList[j]? = some v → Value.okWide Tryz.prog W .any base t v := fun j t v h1 h2 => hval0 j t v (by simpa using h1) (by simpa using h2)
  have hrun := returns_true fnExactNeededSteps_args Abs.Y.law_NeededSteps hbase hA
  rw [Tryz.params5] at hA
  obtain ⟨v0, vs0, d0, ds0, p0, q0, hargs, rfl, rfl, h0, r0⟩ := trodAll_cons hA
  obtain ⟨v1, vs1, d1, ds1, p1, q1, e1, rfl, rfl, h1, r1⟩ := trodAll_cons r0
  subst e1
  obtain ⟨rfl, rfl, rfl⟩ := trodAll_nil r1
  obtain rfl : args = #[v0, v1] := by cases args; simp_all
  obtain ⟨rfl, rfl⟩ := trodVars_none hV
  have lt0 : ∀ x ∈ p0, x.block < W.heap.size := by obtain ⟨m, hm⟩ := h0; exact DataW.trod_lt m _ _ _ hm
  have lt1 : ∀ x ∈ p1, x.block < W.heap.size := by obtain ⟨m, hm⟩ := h1; exact DataW.trod_lt m _ _ _ hm
  refine hrun.mono fun e W' ⟨he, bel⟩ => ?_
  subst he
  exact ⟨_, rfl, _, _, _, [], _, [], hW', trodAll_mk1 (shut_bool Tryz.underlying4 _), (trodAll_cons_mk (Below.trod fnExactNeededSteps_laid (by kernel_rfl) (of_decide_eq_true (by kernel_rfl)) h0 bel lt0) (trodAll_cons_mk (Below.trod fnExactNeededSteps_laid (by kernel_rfl) (of_decide_eq_true (by kernel_rfl)) h1 bel lt1) trodAll_mk0)), rfl, bel.frame _, fun h => by cases h⟩
theorem fnExactNeededSteps_over : Rows.fnExactNeededStepsRow.holds Tryz.pinned (OpenSpec.ofChange Rows.fnExactNeededStepsSpec) :=
  OpenClaim.holds_of_wide 5 Tryz.f5 rfl rfl rfl rfl rfl rfl rfl ⟨rfl, rfl, rfl, rfl, rfl⟩ rfl rfl rfl rfl rfl (by kernel_rfl) Tryz.func5 (by kernel_rfl)
    (of_decide_eq_true (by kernel_rfl)) (by unfold Func.isWrapper; first | (rw [if_pos (by decide +kernel)]; kernel_rfl) | (rw [if_neg (by decide +kernel)]; exact ⟨rfl, rfl⟩))
    (fun os started H enc _ => fnExactNeededSteps_lifted os started H enc)
theorem fnExactNeededSteps_holds : Rows.FnExactNeededStepsSaid := fnExactNeededSteps_over
end Go.Proofs.YtailofgkfldepaaGreat
