/- The law FnExactSourceOf returns true whatever its arguments, and leaves them as they were: the given statement. No condition. -/
import Derived.Test.YtcpflbfcglcjfaaRows
import Derived.Test.YtcpflbfcglcjfaaV16c
import Derived.ProofKit
import Derived.OpenShut
namespace Go.Proofs.Ytcpflbfcglcjfaa
open Go Go.Proofs Abs Abs.Y Go.RowKit Go.ChangeShapes Go.WideShapes Go.ChangeAt
open Nat renaming reduceEqDiff -> Qa, reduceLT -> Qb, reduceAdd -> Qc, reduceMul -> Qd, reduceSub -> Qe, reduceLeDiff -> Qf, reduceSubDiff -> Qg, reduceBEq -> Qh
open Bool renaming not_eq_true' -> Ba, not_eq_false' -> Bb, and_eq_true -> Bc, or_eq_true -> Bd, or_eq_false_iff -> Be
open Int renaming ofNat_lt -> Ia, ofNat_le -> Ib, not_lt -> Ic, not_le -> Ie
open Decidable renaming not_not -> Da
set_option linter.all false
set_option maxRecDepth 100000
theorem fnExactSourceOf_own : ownKnob Try.prog.godebug=none:=by kernel_rfl
theorem fnExactSourceOf_laid : laidOutB Try.prog=true:=by kernel_rfl
theorem fnExactSourceOf_args : OpA Try.prog Try.f9.params.toList [(isSt [isI64,(isSl (isSl isI64))]),isI64,(isSl isI64)]:=by
 rw [Try.params9]
 exact (OpA.cons (opV_agg Try.underlying32 (opF_tot (.cons (by kernel_rfl) (opC_int Try.underlying3 Ty.c3) (.cons (by kernel_rfl) (opC_slice Try.underlying30 Ty.c30 (by rw [Ty.c52]; decide) (opC_slice Try.underlying52 Ty.c52 (by rw [Ty.c3]; decide) (opC_int Try.underlying3 Ty.c3))) (OpF.nil _))) (by kernel_rfl))) (OpA.cons (opV_int Try.underlying3 Ty.c3) (OpA.cons (opV_slice Try.underlying52 (opC_slice Try.underlying52 Ty.c52 (by rw [Ty.c3]; decide) (opC_int Try.underlying3 Ty.c3))) OpA.nil)))
theorem fnExactSourceOf_lifted (os : Os) (started : os.Started) (H : Type) (enc : TypeId × Value->H) :
 ReturnsInHanded {} Try.checked os 9 .any (Rows.fnExactSourceOfSpec.pre6 enc Try.prog Try.f9 Rows.fnExactSourceOfRow.domain false) (Rows.fnExactSourceOfSpec.post enc Try.prog Try.f9 false true false false):=by
 refine returnsInHanded_of_change (C:=Try.checked) fnExactSourceOf_own started (by kernel_rfl) Try.func9
  (ChangeSpec.witness6 (enc:=enc) (C:=Try.checked) false ⟨#[],#[.agg #[.int .i64 0,.slice none 0 0],.int .i64 0,.slice none 0 0],[]⟩ 8 (by kernel_rfl) (by kernel_rfl) (by kernel_rfl) (by kernel_rfl)) ?_
 intro W base args ds gs before hval0 hW hcnd _
 have hW':=hW
 obtain ⟨p,q,hA0,hV,rfl,hfz,hnd⟩:=hW
 have hA : DataW.TrodAll enc Try.prog W 0 (fun _ => true) true Try.f9.params.toList args.toList ds p:=hA0
 have hbase : ∀ (j : Nat) t v,Try.f9.params.toList[j]? = some t->args.toList[j]? = some v->Value.okWide Try.prog W .any base t v:=fun j t v h1 h2 => hval0 j t v (by simpa using h1) (by simpa using h2)
 have hrun:=returns_true fnExactSourceOf_args Abs.Y.law_SourceOf hbase hA
 rw [Try.params9] at hA
 obtain ⟨v0,vs0,d0,ds0,p0,q0,hargs,rfl,rfl,h0,r0⟩:=trodAll_cons hA
 obtain ⟨v1,vs1,d1,ds1,p1,q1,e1,rfl,rfl,h1,r1⟩:=trodAll_cons r0
 subst e1
 obtain ⟨v2,vs2,d2,ds2,p2,q2,e2,rfl,rfl,h2,r2⟩:=trodAll_cons r1
 subst e2
 obtain ⟨rfl,rfl,rfl⟩:=trodAll_nil r2
 obtain rfl : args=#[v0,v1,v2]:=by cases args; simp_all
 obtain ⟨rfl,rfl⟩:=trodVars_none hV
 have lt0 : ∀ x ∈ p0,x.block < W.heap.size:=by obtain ⟨m,hm⟩:=h0; exact DataW.trod_lt m _ _ _ hm
 have lt1 : ∀ x ∈ p1,x.block < W.heap.size:=by obtain ⟨m,hm⟩:=h1; exact DataW.trod_lt m _ _ _ hm
 have lt2 : ∀ x ∈ p2,x.block < W.heap.size:=by obtain ⟨m,hm⟩:=h2; exact DataW.trod_lt m _ _ _ hm
 refine hrun.mono fun e W' ⟨he,bel⟩ => ?_
 subst he
 exact ⟨_,rfl,_,_,_,[],_,[],hW',trodAll_mk1 (shut_bool Try.underlying4 _),(trodAll_cons_mk (Below.trod fnExactSourceOf_laid (by kernel_rfl) (of_decide_eq_true (by kernel_rfl)) h0 bel lt0) (trodAll_cons_mk (Below.trod fnExactSourceOf_laid (by kernel_rfl) (of_decide_eq_true (by kernel_rfl)) h1 bel lt1) (trodAll_cons_mk (Below.trod fnExactSourceOf_laid (by kernel_rfl) (of_decide_eq_true (by kernel_rfl)) h2 bel lt2) trodAll_mk0))),rfl,bel.frame _,fun h => by cases h⟩
set_option maxHeartbeats 400000000 in
theorem fnExactSourceOf_closed : joinedFacts Try.checked.prog 9 Try.f9 Rows.fnExactSourceOfSpec Rows.fnExactSourceOfRow=true:=by
 unfold joinedFacts
 simp only [Bc]
 refine ⟨⟨⟨⟨⟨⟨⟨⟨⟨⟨⟨⟨⟨⟨⟨⟨⟨⟨⟨⟨⟨⟨⟨⟨⟨⟨⟨⟨⟨⟨⟨?_,?_⟩,?_⟩,?_⟩,?_⟩,?_⟩,?_⟩,?_⟩,?_⟩,?_⟩,?_⟩,?_⟩,?_⟩,?_⟩,?_⟩,?_⟩,?_⟩,?_⟩,?_⟩,?_⟩,?_⟩,?_⟩,?_⟩,?_⟩,?_⟩,?_⟩,?_⟩,?_⟩,?_⟩,?_⟩,?_⟩,?_⟩<;>as_aux_lemma => kernel_rfl
theorem fnExactSourceOf_over : Rows.fnExactSourceOfRow.holds Try.pinned (OpenSpec.ofChange Rows.fnExactSourceOfSpec) :=
 OpenClaim.holds_of_wide 9 Try.f9 rfl rfl rfl rfl rfl rfl rfl ⟨rfl,rfl,rfl,rfl,rfl⟩ rfl rfl rfl rfl rfl (by kernel_rfl) Try.func9 fnExactSourceOf_closed
  (of_decide_eq_true (by kernel_rfl)) (by unfold Func.isWrapper; first | (rw [if_pos (by decide +kernel)]; kernel_rfl) | (rw [if_neg (by decide +kernel)]; exact ⟨rfl,rfl⟩))
  (fun os started H enc _ => fnExactSourceOf_lifted os started H enc)
theorem fnExactSourceOf_holds : Rows.FnExactSourceOfSaid:=fnExactSourceOf_over
end Go.Proofs.Ytcpflbfcglcjfaa
