/- The law FnExactAxiomCounts returns true whatever its arguments, and leaves them as they were: the given statement. No condition. -/
import Derived.Test.YtailofgkfldepaaGreatRows
import Derived.Test.YtailofgkfldepaaGreatN4
import Derived.ProofKit
import Derived.OpenShut
namespace Go.Proofs.YtailofgkfldepaaGreat
open Go Go.Proofs Abs Abs.Y Go.RowKit Go.ChangeShapes Go.WideShapes Go.ChangeAt
set_option linter.all false
set_option maxRecDepth 100000
theorem fnExactAxiomCounts_own : ownKnob Tryz.prog.godebug = none := by kernel_rfl
theorem fnExactAxiomCounts_laid : laidOutB Tryz.prog = true := by kernel_rfl
theorem fnExactAxiomCounts_args : OpA Tryz.prog Tryz.f4.params.toList [(isSt [isI64, (isSl (isSl isI64))]), (isSl (isSt [(isSl isI64), isI64, isI64, isI64]))] := by
  rw [Tryz.params4]
  exact (OpA.cons (opV_agg Tryz.underlying24 (opF_tot (.cons (by kernel_rfl) (opC_int Tryz.underlying3 Ty.c3) (.cons (by kernel_rfl) (opC_slice Tryz.underlying22 Ty.c22 (by rw [Ty.c39]; decide) (opC_slice Tryz.underlying39 Ty.c39 (by rw [Ty.c3]; decide) (opC_int Tryz.underlying3 Ty.c3))) (OpF.nil _))) (by kernel_rfl))) (OpA.cons (opV_slice Tryz.underlying25 (opC_slice Tryz.underlying25 Ty.c25 (by rw [Ty.c47]; decide) (opC_struct Tryz.underlying47 (opF_tot (.cons (by kernel_rfl) (opC_slice Tryz.underlying39 Ty.c39 (by rw [Ty.c3]; decide) (opC_int Tryz.underlying3 Ty.c3)) (.cons (by kernel_rfl) (opC_int Tryz.underlying3 Ty.c3) (.cons (by kernel_rfl) (opC_int Tryz.underlying3 Ty.c3) (.cons (by kernel_rfl) (opC_int Tryz.underlying3 Ty.c3) (OpF.nil _))))) (by kernel_rfl))))) OpA.nil))
theorem fnExactAxiomCounts_lifted (os : Os) (started : os.Started) (H : Type) (enc : TypeId × Value → H) :
    ReturnsInHanded {} Tryz.checked os 4 .any (Rows.fnExactAxiomCountsSpec.pre6 enc Tryz.prog Tryz.f4 Rows.fnExactAxiomCountsRow.domain false) (Rows.fnExactAxiomCountsSpec.post enc Tryz.prog Tryz.f4 false true false false) := by
  refine returnsInHanded_of_change (C := Tryz.checked) fnExactAxiomCounts_own started (by kernel_rfl) Tryz.func4
    (ChangeSpec.witness6 (enc := enc) (C := Tryz.checked) false ⟨#[], #[.agg #[.int .i64 0, .slice none 0 0], .slice none 0 0], []⟩ 8 (by kernel_rfl) (by kernel_rfl) (by kernel_rfl) (by kernel_rfl)) ?_
  intro W base args ds gs before hval0 hW hcnd _
  have hW' := hW
  obtain ⟨p, q, hA0, hV, rfl, hfz, hnd⟩ := hW
  have hA : DataW.TrodAll enc Tryz.prog W 0 (fun _ => true) true Tryz.f4.params.toList args.toList ds p := hA0
  have hbase : ∀ (j : Nat) t v, Tryz.f4.params.toList[j]? = some t → args.toList[j]? = some v → Value.okWide Tryz.prog W .any base t v := fun j t v h1 h2 => hval0 j t v (by simpa using h1) (by simpa using h2)
  have hrun := returns_true fnExactAxiomCounts_args Abs.Y.law_AxiomCounts hbase hA
  rw [Tryz.params4] at hA
  obtain ⟨v0, vs0, d0, ds0, p0, q0, hargs, rfl, rfl, h0, r0⟩ := trodAll_cons hA
  obtain ⟨v1, vs1, d1, ds1, p1, q1, e1, rfl, rfl, h1, r1⟩ := trodAll_cons r0
  subst e1
  obtain ⟨rfl, rfl, rfl⟩ := trodAll_nil r1
  obtain rfl : args = #[v0, v1] := by cases args; simp_all
  obtain ⟨rfl, rfl⟩ := trodVars_none hV
  have lt0 : ∀ x ∈ p0, x.block < W.heap.size := by obtain ⟨m, hm⟩ := h0; exact DataW.trod_lt m _ _ _ hm
  have lt1 : ∀ x ∈ p1, x.block < W.heap.size := by obtain ⟨m, hm⟩ := h1; exact DataW.trod_lt m _ _ _ hm
  refine hrun.mono fun e W' ⟨he, bel⟩ => ?_
  subst he
  exact ⟨_, rfl, _, _, _, [], _, [], hW', trodAll_mk1 (shut_bool Tryz.underlying4 _), (trodAll_cons_mk (Below.trod fnExactAxiomCounts_laid (by kernel_rfl) (of_decide_eq_true (by kernel_rfl)) h0 bel lt0) (trodAll_cons_mk (Below.trod fnExactAxiomCounts_laid (by kernel_rfl) (of_decide_eq_true (by kernel_rfl)) h1 bel lt1) trodAll_mk0)), rfl, bel.frame _, fun h => by cases h⟩
theorem fnExactAxiomCounts_over : Rows.fnExactAxiomCountsRow.holds Tryz.pinned (OpenSpec.ofChange Rows.fnExactAxiomCountsSpec) :=
  OpenClaim.holds_of_wide 4 Tryz.f4 rfl rfl rfl rfl rfl rfl rfl ⟨rfl, rfl, rfl, rfl, rfl⟩ rfl rfl rfl rfl rfl (by kernel_rfl) Tryz.func4 (by kernel_rfl)
    (of_decide_eq_true (by kernel_rfl)) (by unfold Func.isWrapper; first | (rw [if_pos (by decide +kernel)]; kernel_rfl) | (rw [if_neg (by decide +kernel)]; exact ⟨rfl, rfl⟩))
    (fun os started H enc _ => fnExactAxiomCounts_lifted os started H enc)
theorem fnExactAxiomCounts_holds : Rows.FnExactAxiomCountsSaid := fnExactAxiomCounts_over
end Go.Proofs.YtailofgkfldepaaGreat
