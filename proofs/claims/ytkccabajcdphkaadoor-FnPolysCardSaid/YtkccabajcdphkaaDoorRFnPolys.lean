/- The law FnPolys returns true whatever its arguments, and leaves them as they were: the given statement. No condition. -/
import Derived.Test.YtkccabajcdphkaaDoorRows
import Derived.Test.YtkccabajcdphkaaDoorPO13
import Derived.ProofKit
import Derived.OpenShut
import Derived.Test.YtkccabajcdphkaaDoorCards
import Derived.Test.YtkccabajcdphkaaDoorTie
import Derived.SevenTiedAt
import Derived.LaidMore
import Derived.Stop.Joined
import Derived.Handed
namespace Go.Proofs.YtkccabajcdphkaaDoor
open Go Go.Proofs Abs Abs.Y Go.RowKit Go.ChangeShapes Go.WideShapes Go.ChangeAt
open Nat renaming reduceEqDiff -> Qa, reduceLT -> Qb, reduceAdd -> Qc, reduceMul -> Qd, reduceSub -> Qe, reduceLeDiff -> Qf, reduceSubDiff -> Qg, reduceBEq -> Qh
open Bool renaming not_eq_true' -> Ba, not_eq_false' -> Bb, and_eq_true -> Bc, or_eq_true -> Bh, or_eq_false_iff -> Be
open Int renaming ofNat_lt -> Ia, ofNat_le -> Ib, not_lt -> Ic, not_le -> Ie
open Decidable renaming not_not -> Da
set_option linter.all false
set_option maxRecDepth 100000
theorem fnPolys_own : ownKnob Tryd.prog.godebug=none:=by kernel_rfl
theorem fnPolys_laid : laidOutB Tryd.prog=true:=by kernel_rfl
theorem fnPolys_args : OpA Tryd.prog Tryd.f3.params.toList [(isSl isU8)]:=by
 rw [Tryd.params3]
 exact (OpA.cons (opV_slice Tryd.underlying22 (opC_slice Tryd.underlying22 Ty.c22 (by rw [Ty.c5]; decide) (opC_u8 Tryd.underlying5 Ty.c5))) OpA.nil)
noncomputable def fnPolys_world (os : Os) : World:=World.doorLaid Tryd.prog 400 os
theorem fnPolys_shaped (os : Os) : ((fnPolys_world os).forCall (fun _ _ => 0) ⟨#[],#[.slice none 0 0],[]⟩).Shaped Tryd.prog:=World.shaped_of_RefB (by kernel_rfl) (by kernel_rfl)
theorem fnPolys_met (os : Os) (args : Array Value) : laidMetH Tryd.prog Rows.fnPolysRow.laid ((fnPolys_world os).forCall (fun _ _ => 0) ⟨#[],args,[]⟩).memory :=
 laidMetH_of_parts3 (fuel:=8) (laidMet_of_run' 8 (by kernel_rfl) (by kernel_rfl)) (by kernel_rfl) (by kernel_rfl)
theorem fnPolys_lifted (os : Os) (started : os.Started) (H : Type) (enc : TypeId × Value->H) :
 ReturnsInHanded {} Tryd.checked os 3 .any (fun w args => (Rows.fnPolysSpec.pre enc Tryd.prog Tryd.f3 Rows.fnPolysRow.domain false w args∧laidMetH Tryd.prog Rows.fnPolysRow.laid w)∧sizedMet enc Tryd.prog Tryd.f3 (OpenSpec.ofChange Rows.fnPolysSpec) false w args) (Rows.fnPolysSpec.post enc Tryd.prog Tryd.f3 false true false false):=by
 refine returnsInHanded_of_change_and (C:=Tryd.checked) (X:=(fun w _ => laidMetH Tryd.prog Rows.fnPolysRow.laid w)) (fun _ _ _ hh h => h.of_heap hh) fnPolys_own started (by kernel_rfl) Tryd.func3
  (ChangeSpec.witness_shaped (enc:=enc) (C:=Tryd.checked) (os:=os) (X:=(fun w _ => laidMetH Tryd.prog Rows.fnPolysRow.laid w)) false (fnPolys_world os) #[.slice none 0 0] 8 rfl (fnPolys_shaped os) (by kernel_rfl) (by kernel_rfl) (by kernel_rfl) (fnPolys_met os _)) ?_
 intro W base args ds gs before hval0 hW hcnd _ hL _
 have hW':=hW
 obtain ⟨p,q,hA0,hV,rfl,hfz,hnd⟩:=hW
 have hA : DataW.TrodAll enc Tryd.prog W 0 (fun _ => true) true Tryd.f3.params.toList args.toList ds p:=hA0
 have hbase : ∀ (j : Nat) t v,Tryd.f3.params.toList[j]? = some t->args.toList[j]? = some v->Value.okWide Tryd.prog W .any base t v:=fun j t v h1 h2 => hval0 j t v (by simpa using h1) (by simpa using h2)
 have hrun:=returns_true fnPolys_args Abs.Y.law_FnPolys hbase hA
 rw [Tryd.params3] at hA
 obtain ⟨v0,vs0,d0,ds0,p0,q0,hargs,rfl,rfl,h0,r0⟩:=trodAll_cons hA
 obtain ⟨rfl,rfl,rfl⟩:=trodAll_nil r0
 obtain rfl : args=#[v0]:=by cases args; simp_all
 obtain ⟨rfl,rfl⟩:=trodVars_none hV
 have lt0 : ∀ x ∈ p0,x.block < W.heap.size:=by obtain ⟨m,hm⟩:=h0; exact DataW.trod_lt m _ _ _ hm
 refine hrun.mono fun e W' ⟨he,bel⟩ => ?_
 subst he
 exact ⟨_,rfl,_,_,_,[],_,[],hW',trodAll_mk1 (shut_bool Tryd.underlying4 _),(trodAll_cons_mk (Below.trod fnPolys_laid (by kernel_rfl) (of_decide_eq_true (by kernel_rfl)) h0 bel lt0) trodAll_mk0),rfl,bel.frame _,fun h => by cases h⟩
set_option maxHeartbeats 400000000 in
theorem fnPolys_closed : joinedFacts Tryd.checked.prog 3 Tryd.f3 Rows.fnPolysSpec Rows.fnPolysRow=true:=by
 unfold joinedFacts
 simp only [Bc]
 refine ⟨⟨⟨⟨⟨⟨⟨⟨⟨⟨⟨⟨⟨⟨⟨⟨⟨⟨⟨⟨⟨⟨⟨⟨⟨⟨⟨⟨⟨⟨⟨?_,?_⟩,?_⟩,?_⟩,?_⟩,?_⟩,?_⟩,?_⟩,?_⟩,?_⟩,?_⟩,?_⟩,?_⟩,?_⟩,?_⟩,?_⟩,?_⟩,?_⟩,?_⟩,?_⟩,?_⟩,?_⟩,?_⟩,?_⟩,?_⟩,?_⟩,?_⟩,?_⟩,?_⟩,?_⟩,?_⟩,?_⟩<;>as_aux_lemma => kernel_rfl
theorem fnPolys_over : Rows.fnPolysRow.holds Tryd.pinned (OpenSpec.ofChange Rows.fnPolysSpec) :=
 OpenClaim.holds_of_wide 3 Tryd.f3 rfl rfl rfl rfl rfl rfl rfl ⟨rfl,rfl,rfl,rfl,rfl⟩ rfl rfl rfl rfl rfl (by kernel_rfl) Tryd.func3 fnPolys_closed
  (of_decide_eq_true (by kernel_rfl)) (by unfold Func.isWrapper; first | (rw [if_pos (by decide +kernel)]; kernel_rfl) | (rw [if_neg (by decide +kernel)]; exact ⟨rfl,rfl⟩))
  (fun os started H enc _ => fnPolys_lifted os started H enc)
theorem fnPolys_holds : Rows.FnPolysCardSaid :=
 Claim7.holds_tied_plain_at .later [] [.data, .data, .data] true (true, "cebc15bcfff8deb379f33d5e24dd3fa1666f4a84a6169d02de90e4a8ab51044a") false
  fnPolys_over (fun _ h => by cases h) (by kernel_rfl) (fun _ h => by cases h) fnPolys_row_tie rfl ⟨rfl,rfl⟩ (by kernel_rfl) rfl
  (fun f fn hf hfn => by
   obtain rfl : f = 3 := Option.some.inj ((show Tryd.prog.funcNamed "loop.example/g01080/laws.FnPolys" = some 3 by kernel_rfl).symm.trans hf) |>.symm
   obtain rfl : fn=Tryd.f3:=(Option.some.inj (Tryd.func3.symm.trans hfn)).symm
   exact ⟨by kernel_rfl,fun j t ht => by
    rw [Tryd.params3] at ht
    have h3 : t=22:=by
     rcases j with _ | j
     . simpa using ht.symm
     . simp at ht
    subst h3
    exact (show Tryd.prog.wantsStandIn 22=false by kernel_rfl)⟩)
  (by kernel_rfl)
end Go.Proofs.YtkccabajcdphkaaDoor
