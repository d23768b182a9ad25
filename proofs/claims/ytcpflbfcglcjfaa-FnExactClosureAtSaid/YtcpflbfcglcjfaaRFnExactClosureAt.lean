/- The law FnExactClosureAt returns true whatever its arguments, and leaves them as they were: the given statement. No condition. -/
import Derived.Test.YtcpflbfcglcjfaaRows
import Derived.Test.YtcpflbfcglcjfaaV4c
import Derived.ProofKit
import Derived.OpenShut
namespace Go.Proofs.Ytcpflbfcglcjfaa
open Go Go.Proofs Abs Abs.Y Go.RowKit Go.ChangeShapes Go.WideShapes Go.ChangeAt
open Nat renaming reduceEqDiff → zqa, reduceLT → zqb, reduceAdd → zqc, reduceMul → zqd, reduceSub → zqe, reduceLeDiff → zqf, reduceSubDiff → zqg, reduceBEq → zqh
open Bool renaming not_eq_true' → zba, not_eq_false' → zbb, and_eq_true → zbc, or_eq_true → zbd, or_eq_false_iff → zbe
open Int renaming ofNat_lt → zia, ofNat_le → zib, not_lt → zic, not_le → zid
open Decidable renaming not_not → zda
set_option linter.all false
set_option maxRecDepth 100000
theorem fnExactClosureAt_own : ownKnob Try.prog.godebug = none := by kernel_rfl
theorem fnExactClosureAt_laid : laidOutB Try.prog = true := by kernel_rfl
theorem fnExactClosureAt_args : OpA Try.prog Try.f6.params.toList [(isSt [isI64, (isSl (isSl isI64))]), isI64] := by
  rw [Try.params6]
  exact (OpA.cons (opV_agg Try.underlying32 (opF_tot (.cons (by kernel_rfl) (opC_int Try.underlying3 Ty.c3) (.cons (by kernel_rfl) (opC_slice Try.underlying30 Ty.c30 (by rw [Ty.c52]; decide) (opC_slice Try.underlying52 Ty.c52 (by rw [Ty.c3]; decide) (opC_int Try.underlying3 Ty.c3))) (OpF.nil _))) (by kernel_rfl))) (OpA.cons (opV_int Try.underlying3 Ty.c3) OpA.nil))
theorem fnExactClosureAt_lifted (os : Os) (started : os.Started) (H : Type) (enc : TypeId × Value → H) :
    ReturnsInHanded {} Try.checked os 6 .any (Rows.fnExactClosureAtSpec.pre6 enc Try.prog Try.f6 Rows.fnExactClosureAtRow.domain false) (Rows.fnExactClosureAtSpec.post enc Try.prog Try.f6 false true false false) := by
  refine returnsInHanded_of_change (C := Try.checked) fnExactClosureAt_own started (by kernel_rfl) Try.func6
    (ChangeSpec.witness6 (enc := enc) (C := Try.checked) false ⟨#[], #[.agg #[.int .i64 0, .slice none 0 0], .int .i64 0], []⟩ 8 (by kernel_rfl) (by kernel_rfl) (by kernel_rfl) (by kernel_rfl)) ?_
  intro W base args ds gs before hval0 hW hcnd _
  have hW' := hW
  obtain ⟨p, q, hA0, hV, rfl, hfz, hnd⟩ := hW
  have hA : DataW.TrodAll enc Try.prog W 0 (fun _ => true) true Try.f6.params.toList args.toList ds p := hA0
  have hbase : ∀ (j : Nat) t v, Try.f6.params.toList[j]? = some t → args.toList[j]? = some v → Value.okWide Try.prog W .any base t v := fun j t v h1 h2 => hval0 j t v (by simpa using h1) (by simpa using h2)
  have hrun := returns_true fnExactClosureAt_args Abs.Y.law_ClosureAt hbase hA
  rw [Try.params6] at hA
  obtain ⟨v0, vs0, d0, ds0, p0, q0, hargs, rfl, rfl, h0, r0⟩ := trodAll_cons hA
  obtain ⟨v1, vs1, d1, ds1, p1, q1, e1, rfl, rfl, h1, r1⟩ := trodAll_cons r0
  subst e1
  obtain ⟨rfl, rfl, rfl⟩ := trodAll_nil r1
  obtain rfl : args = #[v0, v1] := by cases args; simp_all
  obtain ⟨rfl, rfl⟩ := trodVars_none hV
  have lt0 : ∀ x ∈ p0, x.block < W.heap.size := by obtain ⟨m, hm⟩ := h0; exact DataW.trod_lt m _ _ _ hm
  have lt1 : ∀ x ∈ p1, x.block < W.heap.size := by obtain ⟨m, hm⟩ := h1; exact DataW.trod_lt m _ _ _ hm
  refine hrun.mono fun e W' ⟨he, bel⟩ => ?_
  subst he
  exact ⟨_, rfl, _, _, _, [], _, [], hW', trodAll_mk1 (shut_bool Try.underlying4 _), (trodAll_cons_mk (Below.trod fnExactClosureAt_laid (by kernel_rfl) (of_decide_eq_true (by kernel_rfl)) h0 bel lt0) (trodAll_cons_mk (Below.trod fnExactClosureAt_laid (by kernel_rfl) (of_decide_eq_true (by kernel_rfl)) h1 bel lt1) trodAll_mk0)), rfl, bel.frame _, fun h => by cases h⟩
set_option maxHeartbeats 400000000 in
theorem fnExactClosureAt_closed : joinedFacts Try.checked.prog 6 Try.f6 Rows.fnExactClosureAtSpec Rows.fnExactClosureAtRow = true := by
  unfold joinedFacts
  simp only [zbc]
  refine ⟨⟨⟨⟨⟨⟨⟨⟨⟨⟨⟨⟨⟨⟨⟨⟨⟨⟨⟨⟨⟨⟨⟨⟨⟨⟨⟨⟨⟨⟨⟨?_, ?_⟩, ?_⟩, ?_⟩, ?_⟩, ?_⟩, ?_⟩, ?_⟩, ?_⟩, ?_⟩, ?_⟩, ?_⟩, ?_⟩, ?_⟩, ?_⟩, ?_⟩, ?_⟩, ?_⟩, ?_⟩, ?_⟩, ?_⟩, ?_⟩, ?_⟩, ?_⟩, ?_⟩, ?_⟩, ?_⟩, ?_⟩, ?_⟩, ?_⟩, ?_⟩, ?_⟩ <;> as_aux_lemma => kernel_rfl
theorem fnExactClosureAt_over : Rows.fnExactClosureAtRow.holds Try.pinned (OpenSpec.ofChange Rows.fnExactClosureAtSpec) :=
  OpenClaim.holds_of_wide 6 Try.f6 rfl rfl rfl rfl rfl rfl rfl ⟨rfl, rfl, rfl, rfl, rfl⟩ rfl rfl rfl rfl rfl (by kernel_rfl) Try.func6 fnExactClosureAt_closed
    (of_decide_eq_true (by kernel_rfl)) (by unfold Func.isWrapper; first | (rw [if_pos (by decide +kernel)]; kernel_rfl) | (rw [if_neg (by decide +kernel)]; exact ⟨rfl, rfl⟩))
    (fun os started H enc _ => fnExactClosureAt_lifted os started H enc)
theorem fnExactClosureAt_holds : Rows.FnExactClosureAtSaid := fnExactClosureAt_over
end Go.Proofs.Ytcpflbfcglcjfaa
