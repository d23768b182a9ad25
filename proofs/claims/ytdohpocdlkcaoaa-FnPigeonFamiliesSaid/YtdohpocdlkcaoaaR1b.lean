/- What functions of this program compute, over plain data. No condition. -/
import Derived.Test.YtdohpocdlkcaoaaR6
import Derived.Test.YtdohpocdlkcaoaaL3
import Derived.Test.YtdohpocdlkcaoaaFF1
import Derived.Test.YtdohpocdlkcaoaaR2
set_option linter.all false
namespace Abs.Y
open Go Go.Proofs Abs
open Nat renaming reduceEqDiff -> Qa, reduceLT -> Qb, reduceAdd -> Qc, reduceMul -> Qd, reduceSub -> Qe, reduceLeDiff -> Qf, reduceSubDiff -> Qg, reduceBEq -> Qh
open Bool renaming not_eq_true' -> Ba, not_eq_false' -> Bb, and_eq_true -> Bc, or_eq_true -> Bd, or_eq_false_iff -> Be
open Int renaming ofNat_lt -> Ia, ofNat_le -> Ib, not_lt -> Ic, not_le -> Ie
open Decidable renaming not_not -> Da
set_option maxRecDepth 100000
set_option maxHeartbeats 1000000

@[reducible] def rowI (x : List Int) : AO:=.arr 3 1 (x.map (.int .i64))
@[reducible] def Q3 : AV->List (Nat × AO)->Prop:=fun r oo => ∃ (v : Int) (a b : List Int),r=.tup [.d (.int .i64 v),.sl 1,.sl 2]∧oo=[(1,rowI a),(2,rowI b)]∧-1<=v∧v<=13∧a.length<=1000∧b.length<=1000
end Abs.Y

namespace Abs.Y
open Go Go.Proofs Abs
open Nat renaming reduceEqDiff -> Qa, reduceLT -> Qb, reduceAdd -> Qc, reduceMul -> Qd, reduceSub -> Qe, reduceLeDiff -> Qf, reduceSubDiff -> Qg, reduceBEq -> Qh
open Bool renaming not_eq_true' -> Ba, not_eq_false' -> Bb, and_eq_true -> Bc, or_eq_true -> Bd, or_eq_false_iff -> Be
open Int renaming ofNat_lt -> Ia, ofNat_le -> Ib, not_lt -> Ic, not_le -> Ie
open Decidable renaming not_not -> Da
set_option maxRecDepth 100000

theorem r_bytes {x : D} (h : isSl isU8 x) : ∃ code : List Int,x=D.bytes code∧∀ i,0<=code.getD i 0∧code.getD i 0 < 256:=by
 obtain ⟨es,rfl,_,hes⟩:=h
 have key : ∀ es : List D,(∀ e ∈ es,isU8 e)->∃ code : List Int,es=code.map (D.int .u8)∧∀ b ∈ code,0<=b∧b < 256:=by
  intro es
  induction es with
  | nil => exact fun _ => ⟨[],rfl,fun _ h => by cases h⟩
  | cons e r ih =>
    intro h
    obtain ⟨n,rfl,h1,h2⟩:=h e (by simp)
    obtain ⟨c,rfl,hc⟩:=ih fun x hx => h x (by simp [hx])
    exact ⟨n :: c,rfl,fun b hb => by
     rcases List.mem_cons.1 hb with rfl | hb
     . omega
     . exact hc b hb⟩
 obtain ⟨code,rfl,hc⟩:=key es hes
 refine ⟨code,rfl,fun i => ?_⟩
 by_cases hi : i < code.length
 . exact hc _ (getD_mem hi)
 . simp [List.getD_eq_getElem?_getD,List.getElem?_eq_none (show code.length<=i by omega)]
end Abs.Y
