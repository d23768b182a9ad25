/- What functions of this program compute, over plain data. No condition. -/
import Derived.Test.YtckigpgkmdhfoaaE11
import Derived.Test.YtckigpgkmdhfoaaAbsReg7
import Derived.Test.YtckigpgkmdhfoaaAbsShelf2
set_option linter.all false
namespace Abs
open Go Go.RowKit
theorem retM_s1x {P : Program} {t : Nat} {st : St} {u : Nat->Value} {o : AO} (i : Nat) (h : lk t st.s=some (.sl i)) (ho : lk i st.o=some o) (hr : ∀ f,o.ren f=o) : retM P [.tmp t] u [] true (.sl 0) [(0,o)] .ret st:=by
 simp only [retM,resV,h]
 exact ⟨trivial,⟨fun _ => i,rfl,fun p hp => by simp only [List.mem_cons,List.not_mem_nil,or_false] at hp; subst hp; rw [hr]; exact ho,fun p hp q hq _ => by simp only [List.mem_cons,List.not_mem_nil,or_false] at hp hq; subst hp; subst hq; rfl,trivial⟩,.inl trivial⟩
end Abs
namespace Abs.Y
open Go Go.Proofs Abs
open Nat renaming reduceEqDiff -> Qa, reduceLT -> Qb, reduceAdd -> Qc, reduceMul -> Qd, reduceSub -> Qe, reduceLeDiff -> Qf, reduceSubDiff -> Qg, reduceBEq -> Qh
open Bool renaming not_eq_true' -> Ba, not_eq_false' -> Bb, and_eq_true -> Bc, or_eq_true -> Bd, or_eq_false_iff -> Be
open Int renaming ofNat_lt -> Ia, ofNat_le -> Ib, not_lt -> Ic, not_le -> Ie
open Decidable renaming not_not -> Da
set_option maxRecDepth 100000

def idxG {α : Type} (p : α->Bool) (l : List α) : Int:=match l.findIdx? p with | some i => (i : Nat) | none => -1
section
variable {α : Type} {z : α} {p : α->Bool} {l : List α}
theorem idxG_some {i : Nat} (h : i < l.length) (hp : p (l.getD i z)=true) (hn : ∀ j,j < i->p (l.getD j z)=false) : idxG p l=i:=by
 have : l.findIdx? p=some i:=by
  rw [List.findIdx?_eq_some_iff_getElem]
  refine ⟨h,by simpa [List.getD_eq_getElem?_getD,h] using hp,fun j hj => ?_⟩
  have h2 : j < l.length:=by omega
  simpa [List.getD_eq_getElem?_getD,h2] using hn j hj
 simp [idxG,this]
theorem idxG_none (hn : ∀ j,j < l.length->p (l.getD j z)=false) : idxG p l=-1:=by
 have : l.findIdx? p=none:=by
  rw [List.findIdx?_eq_none_iff]
  intro x hx
  obtain ⟨j,hj,rfl⟩:=List.getElem_of_mem hx
  simpa [List.getD_eq_getElem?_getD,hj] using hn j hj
 simp [idxG,this]
theorem idxG_or (z : α) : (idxG p l=-1∧∀ j,j < l.length->p (l.getD j z)=false)∨∃ i : Nat,i < l.length∧idxG p l=i∧p (l.getD i z)=true∧∀ j,j < i->p (l.getD j z)=false:=by
 cases h : l.findIdx? p with
 | none =>
   refine .inl ⟨by simp [idxG,h],fun j hj => ?_⟩
   rw [List.findIdx?_eq_none_iff] at h
   have:=h _ (getD_mem (z:=z) hj)
   simpa using this
 | some i =>
   rw [List.findIdx?_eq_some_iff_getElem] at h
   obtain ⟨h1,h2,h3⟩:=h
   refine .inr ⟨i,h1,?_,by simpa [List.getD_eq_getElem?_getD,h1] using h2,fun j hj => ?_⟩
   . have : l.findIdx? p=some i:=by
      rw [List.findIdx?_eq_some_iff_getElem]; exact ⟨h1,h2,h3⟩
     simp [idxG,this]
   . have h4:=h3 j hj
     have h5 : j < l.length:=by omega
     simpa [List.getD_eq_getElem?_getD,h5] using h4
end
theorem set_keep {α : Type} (v : α) {A l : List α} (h : A.length < l.length) : (A++l.drop A.length).set A.length v=(A++[v])++l.drop (A++[v]).length:=by
 rw [List.set_append_right _ _ (Nat.le_refl _),Nat.sub_self,List.drop_eq_getElem_cons h,List.set_cons_zero,List.append_assoc,List.length_append]
 rfl
def keepN (p : Tg->Bool) (ps : List Tg) (j : Nat) : List Tg:=(ps.take j).filter fun q => !(p q)
end Abs.Y
