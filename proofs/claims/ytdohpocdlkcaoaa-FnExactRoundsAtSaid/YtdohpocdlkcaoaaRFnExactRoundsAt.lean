/- The law FnExactRoundsAt returns true whatever its arguments, and leaves them as they were: the given statement. No condition. -/
import Derived.Test.YtdohpocdlkcaoaaRows
import Derived.Test.YtdohpocdlkcaoaaV19c
import Derived.ProofKit
import Derived.OpenShut
namespace Go.Proofs.Ytdohpocdlkcaoaa
open Go Go.Proofs Abs Abs.Y Go.RowKit Go.ChangeShapes Go.WideShapes Go.ChangeAt
open Nat renaming reduceEqDiff -> Qa, reduceLT -> Qb, reduceAdd -> Qc, reduceMul -> Qd, reduceSub -> Qe, reduceLeDiff -> Qf, reduceSubDiff -> Qg, reduceBEq -> Qh
open Bool renaming not_eq_true' -> Ba, not_eq_false' -> Bb, and_eq_true -> Bc, or_eq_true -> Bd, or_eq_false_iff -> Be
open Int renaming ofNat_lt -> Ia, ofNat_le -> Ib, not_lt -> Ic, not_le -> Ie
open Decidable renaming not_not -> Da
set_option linter.all false
set_option maxRecDepth 100000
theorem fnExactRoundsAt_own : ownKnob Try.prog.godebug=none:=by kernel_rfl
theorem fnExactRoundsAt_laid : laidOutB Try.prog=true:=by kernel_rfl
theorem fnExactRoundsAt_args : OpA Try.prog Try.f3.params.toList [(isSt [isI64,(isSl (isSl isI64))]),isI64]:=by
 rw [Try.params3]
 exact (OpA.cons (opV_agg Try.underlying24 (opF_tot (.cons (by kernel_rfl) (opC_int Try.underlying3 Ty.c3) (.cons (by kernel_rfl) (opC_slice Try.underlying22 Ty.c22 (by rw [Ty.c38]; decide) (opC_slice Try.underlying38 Ty.c38 (by rw [Ty.c3]; decide) (opC_int Try.underlying3 Ty.c3))) (OpF.nil _))) (by kernel_rfl))) (OpA.cons (opV_int Try.underlying3 Ty.c3) OpA.nil))
theorem fnExactRoundsAt_lifted (os : Os) (started : os.Started) (H : Type) (enc : TypeId × Value->H) :
 ReturnsInHanded {} Try.checked os 3 .any (Rows.fnExactRoundsAtSpec.pre6 enc Try.prog Try.f3 Rows.fnExactRoundsAtRow.domain false) (Rows.fnExactRoundsAtSpec.post enc Try.prog Try.f3 false true false false):=by
 refine returnsInHanded_of_change (C:=Try.checked) fnExactRoundsAt_own started (by kernel_rfl) Try.func3
  (ChangeSpec.witness6 (enc:=enc) (C:=Try.checked) false ⟨#[],#[.agg #[.int .i64 0,.slice none 0 0],.int .i64 0],[]⟩ 8 (by kernel_rfl) (by kernel_rfl) (by kernel_rfl) (by kernel_rfl)) ?_
 intro W base args ds gs before hval0 hW hcnd _
 have hW':=hW
 obtain ⟨p,q,hA0,hV,rfl,hfz,hnd⟩:=hW
 have hA : DataW.TrodAll enc Try.prog W 0 (fun _ => true) true Try.f3.params.toList args.toList ds p:=hA0
 have hbase : ∀ (j : Nat) t v,Try.f3.params.toList[j]? = some t->args.toList[j]? = some v->Value.okWide Try.prog W .any base t v:=fun j t v h1 h2 => hval0 j t v (by simpa using h1) (by simpa using h2)
 have hrun:=returns_true fnExactRoundsAt_args Abs.Y.law_RoundsAt hbase hA
 rw [Try.params3] at hA
 obtain ⟨v0,vs0,d0,ds0,p0,q0,hargs,rfl,rfl,h0,r0⟩:=trodAll_cons hA
 obtain ⟨v1,vs1,d1,ds1,p1,q1,e1,rfl,rfl,h1,r1⟩:=trodAll_cons r0
 subst e1
 obtain ⟨rfl,rfl,rfl⟩:=trodAll_nil r1
 obtain rfl : args=#[v0,v1]:=by cases args; simp_all
 obtain ⟨rfl,rfl⟩:=trodVars_none hV
 have lt0 : ∀ x ∈ p0,x.block < W.heap.size:=by obtain ⟨m,hm⟩:=h0; exact DataW.trod_lt m _ _ _ hm
 have lt1 : ∀ x ∈ p1,x.block < W.heap.size:=by obtain ⟨m,hm⟩:=h1; exact DataW.trod_lt m _ _ _ hm
 refine hrun.mono fun e W' ⟨he,bel⟩ => ?_
 subst he
 exact ⟨_,rfl,_,_,_,[],_,[],hW',trodAll_mk1 (shut_bool Try.underlying4 _),(trodAll_cons_mk (Below.trod fnExactRoundsAt_laid (by kernel_rfl) (of_decide_eq_true (by kernel_rfl)) h0 bel lt0) (trodAll_cons_mk (Below.trod fnExactRoundsAt_laid (by kernel_rfl) (of_decide_eq_true (by kernel_rfl)) h1 bel lt1) trodAll_mk0)),rfl,bel.frame _,fun h => by cases h⟩
set_option maxHeartbeats 400000000 in
theorem fnExactRoundsAt_closed : joinedFacts Try.checked.prog 3 Try.f3 Rows.fnExactRoundsAtSpec Rows.fnExactRoundsAtRow=true:=by
 unfold joinedFacts
 simp only [Bc]
 refine ⟨⟨⟨⟨⟨⟨⟨⟨⟨⟨⟨⟨⟨⟨⟨⟨⟨⟨⟨⟨⟨⟨⟨⟨⟨⟨⟨⟨⟨⟨⟨?_,?_⟩,?_⟩,?_⟩,?_⟩,?_⟩,?_⟩,?_⟩,?_⟩,?_⟩,?_⟩,?_⟩,?_⟩,?_⟩,?_⟩,?_⟩,?_⟩,?_⟩,?_⟩,?_⟩,?_⟩,?_⟩,?_⟩,?_⟩,?_⟩,?_⟩,?_⟩,?_⟩,?_⟩,?_⟩,?_⟩,?_⟩<;>as_aux_lemma => kernel_rfl
theorem fnExactRoundsAt_over : Rows.fnExactRoundsAtRow.holds Try.pinned (OpenSpec.ofChange Rows.fnExactRoundsAtSpec) :=
 OpenClaim.holds_of_wide 3 Try.f3 rfl rfl rfl rfl rfl rfl rfl ⟨rfl,rfl,rfl,rfl,rfl⟩ rfl rfl rfl rfl rfl (by kernel_rfl) Try.func3 fnExactRoundsAt_closed
  (of_decide_eq_true (by kernel_rfl)) (by unfold Func.isWrapper; first | (rw [if_pos (by decide +kernel)]; kernel_rfl) | (rw [if_neg (by decide +kernel)]; exact ⟨rfl,rfl⟩))
  (fun os started H enc _ => fnExactRoundsAt_lifted os started H enc)
theorem fnExactRoundsAt_holds : Rows.FnExactRoundsAtSaid:=fnExactRoundsAt_over
end Go.Proofs.Ytdohpocdlkcaoaa
