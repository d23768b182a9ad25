/- The law FnFormulas returns true whatever its arguments, and leaves them as they were: the given statement. No condition. -/
import Derived.Test.YtiafnejjhnjbfaaGreatRows
import Derived.Test.YtiafnejjhnjbfaaGreatNF7
import Derived.ProofKit
import Derived.OpenShut
namespace Go.Proofs.YtiafnejjhnjbfaaGreat
open Go Go.Proofs Abs Abs.Y Go.RowKit Go.ChangeShapes Go.WideShapes Go.ChangeAt
open Nat renaming reduceEqDiff -> Qa, reduceLT -> Qb, reduceAdd -> Qc, reduceMul -> Qd, reduceSub -> Qe, reduceLeDiff -> Qf, reduceSubDiff -> Qg, reduceBEq -> Qh
open Bool renaming not_eq_true' -> Ba, not_eq_false' -> Bb, and_eq_true -> Bc, or_eq_true -> Bh, or_eq_false_iff -> Be
open Int renaming ofNat_lt -> Ia, ofNat_le -> Ib, not_lt -> Ic, not_le -> Ie
open Decidable renaming not_not -> Da
set_option linter.all false
set_option maxRecDepth 100000
theorem fnFormulas_own : ownKnob Tryz.prog.godebug=none:=by kernel_rfl
theorem fnFormulas_laid : laidOutB Tryz.prog=true:=by kernel_rfl
theorem fnFormulas_args : OpA Tryz.prog Tryz.f3.params.toList [(isSl isU8)]:=by
 rw [Tryz.params3]
 exact (OpA.cons (opV_slice Tryz.underlying22 (opC_slice Tryz.underlying22 Ty.c22 (by rw [Ty.c5]; decide) (opC_u8 Tryz.underlying5 Ty.c5))) OpA.nil)
theorem fnFormulas_lifted (os : Os) (started : os.Started) (H : Type) (enc : TypeId × Value->H) :
 ReturnsInHanded {} Tryz.checked os 3 .any (Rows.fnFormulasSpec.pre6 enc Tryz.prog Tryz.f3 Rows.fnFormulasRow.domain false) (Rows.fnFormulasSpec.post enc Tryz.prog Tryz.f3 false true false false):=by
 refine returnsInHanded_of_change (C:=Tryz.checked) fnFormulas_own started (by kernel_rfl) Tryz.func3
  (ChangeSpec.witness6 (enc:=enc) (C:=Tryz.checked) false ⟨#[],#[.slice none 0 0],[]⟩ 8 (by kernel_rfl) (by kernel_rfl) (by kernel_rfl) (by kernel_rfl)) ?_
 intro W base args ds gs before hval0 hW hcnd _
 have hW':=hW
 obtain ⟨p,q,hA0,hV,rfl,hfz,hnd⟩:=hW
 have hA : DataW.TrodAll enc Tryz.prog W 0 (fun _ => true) true Tryz.f3.params.toList args.toList ds p:=hA0
 have hbase : ∀ (j : Nat) t v,Tryz.f3.params.toList[j]? = some t->args.toList[j]? = some v->Value.okWide Tryz.prog W .any base t v:=fun j t v h1 h2 => hval0 j t v (by simpa using h1) (by simpa using h2)
 have hrun:=returns_true fnFormulas_args Abs.Y.law_FnFormulas hbase hA
 rw [Tryz.params3] at hA
 obtain ⟨v0,vs0,d0,ds0,p0,q0,hargs,rfl,rfl,h0,r0⟩:=trodAll_cons hA
 obtain ⟨rfl,rfl,rfl⟩:=trodAll_nil r0
 obtain rfl : args=#[v0]:=by cases args; simp_all
 obtain ⟨rfl,rfl⟩:=trodVars_none hV
 have lt0 : ∀ x ∈ p0,x.block < W.heap.size:=by obtain ⟨m,hm⟩:=h0; exact DataW.trod_lt m _ _ _ hm
 refine hrun.mono fun e W' ⟨he,bel⟩ => ?_
 subst he
 exact ⟨_,rfl,_,_,_,[],_,[],hW',trodAll_mk1 (shut_bool Tryz.underlying4 _),(trodAll_cons_mk (Below.trod fnFormulas_laid (by kernel_rfl) (of_decide_eq_true (by kernel_rfl)) h0 bel lt0) trodAll_mk0),rfl,bel.frame _,fun h => by cases h⟩
set_option maxHeartbeats 400000000 in
theorem fnFormulas_closed : joinedFacts Tryz.checked.prog 3 Tryz.f3 Rows.fnFormulasSpec Rows.fnFormulasRow=true:=by
 unfold joinedFacts
 simp only [Bc]
 refine ⟨⟨⟨⟨⟨⟨⟨⟨⟨⟨⟨⟨⟨⟨⟨⟨⟨⟨⟨⟨⟨⟨⟨⟨⟨⟨⟨⟨⟨⟨⟨?_,?_⟩,?_⟩,?_⟩,?_⟩,?_⟩,?_⟩,?_⟩,?_⟩,?_⟩,?_⟩,?_⟩,?_⟩,?_⟩,?_⟩,?_⟩,?_⟩,?_⟩,?_⟩,?_⟩,?_⟩,?_⟩,?_⟩,?_⟩,?_⟩,?_⟩,?_⟩,?_⟩,?_⟩,?_⟩,?_⟩,?_⟩<;>as_aux_lemma => kernel_rfl
theorem fnFormulas_over : Rows.fnFormulasRow.holds Tryz.pinned (OpenSpec.ofChange Rows.fnFormulasSpec) :=
 OpenClaim.holds_of_wide 3 Tryz.f3 rfl rfl rfl rfl rfl rfl rfl ⟨rfl,rfl,rfl,rfl,rfl⟩ rfl rfl rfl rfl rfl (by kernel_rfl) Tryz.func3 fnFormulas_closed
  (of_decide_eq_true (by kernel_rfl)) (by unfold Func.isWrapper; first | (rw [if_pos (by decide +kernel)]; kernel_rfl) | (rw [if_neg (by decide +kernel)]; exact ⟨rfl,rfl⟩))
  (fun os started H enc _ => fnFormulas_lifted os started H enc)
theorem fnFormulas_holds : Rows.FnFormulasSaid:=fnFormulas_over
end Go.Proofs.YtiafnejjhnjbfaaGreat
