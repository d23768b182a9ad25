/- What functions of this program compute, over plain data. No condition. -/
import Derived.Test.YtkccabajcdphkaaDoorA3
set_option linter.all false
namespace Abs.Y
open Go Go.Proofs Abs
open Nat renaming reduceEqDiff -> Qa, reduceLT -> Qb, reduceAdd -> Qc, reduceMul -> Qd, reduceSub -> Qe, reduceLeDiff -> Qf, reduceSubDiff -> Qg, reduceBEq -> Qh
open Bool renaming not_eq_true' -> Ba, not_eq_false' -> Bb, and_eq_true -> Bc, or_eq_true -> Bh, or_eq_false_iff -> Be
open Int renaming ofNat_lt -> Ia, ofNat_le -> Ib, not_lt -> Ic, not_le -> Ie
open Decidable renaming not_not -> Da
set_option maxRecDepth 100000

def mulX (p : Int) (u : Nat) (v : List Int) (x : Int) : List Int:=mulD p (2 ^ u) v (litD p u x)
structure Cl (p : Int) (u : Nat) (cs : List (List Int)) (d : Int) (W : List Int->Prop) : Prop where
 zero : W (List.replicate (2 ^ u) 0)
 add : ∀ v w k,Vec p (2 ^ u) v->Vec p (2 ^ u) w->W v->W w->W (addD p k v w)
 cl : ∀ c ∈ cs,(c.length : Int)<=d->W (clauseD p u c)
 mul : ∀ v,Vec p (2 ^ u) v->W v->degD v < d->∀ x : Int,1<=x->x<=u->W (mulX p u v x)
def Mn (p : Int) (u : Nat) (cs : List (List Int)) (d : Int) (v : List Int) : Prop:=∀ W,Cl p u cs d W->W v
theorem Ech.nz {p : Int} {n : Nat} {R : List (List Int)} (h : Ech p n ldG R) {r : List Int} (hr : r ∈ R) : ¬ ldI r < 0:=fun hn => by
 have:=h.one r hr
 rw [ldI_neg.1 hn] at this
 exact absurd this (by decide)
end Abs.Y

namespace Abs.Y
open Go Go.Proofs Abs
open Nat renaming reduceEqDiff -> Qa, reduceLT -> Qb, reduceAdd -> Qc, reduceMul -> Qd, reduceSub -> Qe, reduceLeDiff -> Qf, reduceSubDiff -> Qg, reduceBEq -> Qh
open Bool renaming not_eq_true' -> Ba, not_eq_false' -> Bb, and_eq_true -> Bc, or_eq_true -> Bh, or_eq_false_iff -> Be
open Int renaming ofNat_lt -> Ia, ofNat_le -> Ib, not_lt -> Ic, not_le -> Ie
open Decidable renaming not_not -> Da
set_option maxRecDepth 100000

theorem AllV.app {p : Int} {n : Nat} {R l : List (List Int)} (h : AllV p n R) (h' : AllV p n l) : AllV p n (R++l):=fun x hx => by
 rcases List.mem_append.1 hx with h1 | h1
 . exact h x h1
 . exact h' x h1
theorem SpEq.trans {p : Int} {n : Nat} {R R' R'' : List (List Int)} (h : SpEq p n R R') (h' : SpEq p n R' R'') : SpEq p n R R'':=fun v => (h v).trans (h' v)
theorem SpEq.symm {p : Int} {n : Nat} {R R' : List (List Int)} (h : SpEq p n R R') : SpEq p n R' R:=fun v => (h v).symm
theorem Sp.mono {p : Int} {n : Nat} {R R' : List (List Int)} {v : List Int} (h : ∀ r ∈ R,r ∈ R') (hv : Sp p n R v) : Sp p n R' v:=by
 induction hv with
 | zero => exact .zero
 | add k _ hr ih => exact .add k ih (h _ hr)
theorem SpEq.app {p : Int} {n : Nat} (hp : 0 < p) {R R' : List (List Int)} (l : List (List Int)) (hR : AllV p n R) (hR' : AllV p n R') (hl : AllV p n l) (h : SpEq p n R R') : SpEq p n (R++l) (R'++l):=fun v => by
 constructor
 . refine Sp.trans hp (hR'.app hl) fun r hr => ?_
   rcases List.mem_append.1 hr with h1 | h1
   . exact Sp.mono (fun x hx => List.mem_append.2 (.inl hx)) ((h r).1 (Sp.self hp hR h1))
   . exact Sp.self hp (hR'.app hl) (List.mem_append.2 (.inr h1))
 . refine Sp.trans hp (hR.app hl) fun r hr => ?_
   rcases List.mem_append.1 hr with h1 | h1
   . exact Sp.mono (fun x hx => List.mem_append.2 (.inl hx)) ((h r).2 (Sp.self hp hR' h1))
   . exact Sp.self hp (hR.app hl) (List.mem_append.2 (.inr h1))
structure Keep (p : Int) (u : Nat) (S : Type) where
 rows : S->List (List Int)
 inv : S->Prop
 put : S->List Int->S × Bool
 ech : ∀ s,inv s->Ech p (2 ^ u) ldG (rows s)
 ok : ∀ s a,inv s->Vec p (2 ^ u) a->inv (put s a).1∧SpEq p (2 ^ u) (rows (put s a).1) (rows s++[a])
 no : ∀ s a,inv s->Vec p (2 ^ u) a->(put s a).2=false->(put s a).1=s
 yes : ∀ s a,inv s->Vec p (2 ^ u) a->(put s a).2=true->(rows (put s a).1).length=(rows s).length + 1
section
variable {p : Int} {u : Nat} {S : Type} (K : Keep p u S)
def Keep.puts (q : S × Bool) (l : List (List Int)) : S × Bool:=l.foldl (fun q a => ((K.put q.1 a).1,q.2 || (K.put q.1 a).2)) q
variable (hp : 1 < p) (hu : u<=6)
include hp
def prodsR (p : Int) (u : Nat) (d : Int) (r : List Int) : List (List Int):=if degD r < d then (List.range u).map (fun v => mulX p u r ((v : Nat) + 1 : Int)) else []
def prods (p : Int) (u : Nat) (d : Int) (rows : List (List Int)) : List (List Int):=rows.flatMap (prodsR p u d)
def Keep.round (d : Int) (s : S) : S × Bool:=K.puts (s,false) (prods p u d (K.rows s))
def clausesD (p : Int) (u : Nat) (d : Int) (cs : List (List Int)) : List (List Int):=(cs.filter fun c => decide ((c.length : Int)<=d)).map (clauseD p u)
def Keep.base (cs : List (List Int)) (d : Int) (s : S) : S:=(K.puts (s,false) (clausesD p u d cs)).1
def Keep.it (d : Int) (s : S) : Nat->S × Bool
 | 0 => (s,true)
 | i + 1 => K.round d (Keep.it d s i).1
include hu
def Keep.fin (cs : List (List Int)) (d : Int) (s : S) : S:=(K.it d (K.base cs d s) 65).1
end
def Closed (p : Int) (u : Nat) (d : Int) (R : List (List Int)) : Prop:=∀ a ∈ prods p u d R,Sp p (2 ^ u) R a
end Abs.Y

namespace Abs.Y
open Go Go.Proofs Abs
open Nat renaming reduceEqDiff -> Qa, reduceLT -> Qb, reduceAdd -> Qc, reduceMul -> Qd, reduceSub -> Qe, reduceLeDiff -> Qf, reduceSubDiff -> Qg, reduceBEq -> Qh
open Bool renaming not_eq_true' -> Ba, not_eq_false' -> Bb, and_eq_true -> Bc, or_eq_true -> Bh, or_eq_false_iff -> Be
open Int renaming ofNat_lt -> Ia, ofNat_le -> Ib, not_lt -> Ic, not_le -> Ie
open Decidable renaming not_not -> Da
set_option maxRecDepth 100000

def restR (p : Int) (R : List (List Int)) (a : List Int) : List Int:=redD p ldG R.reverse a
def putStep (p : Int) (lead : Nat) (row : List Int) (s : List (List Int) × Bool) (r : List Int) : List (List Int) × Bool :=
 if s.2=false∧kG lead < kG (ldG r) then (s.1++[row]++[clr p lead row r],true) else (s.1++[clr p lead row r],s.2)
def putQ (p : Int) (lead : Nat) (row : List Int) (R : List (List Int)) (k : Nat) : List (List Int) × Bool:=(R.take k).foldl (putStep p lead row) ([],false)
theorem putQ_succ (p : Int) (lead : Nat) (row : List Int) (R : List (List Int)) {k : Nat} (h : k < R.length) : putQ p lead row R (k + 1)=putStep p lead row (putQ p lead row R k) (R.getD k []):=by
 rw [putQ,take_succ [] R k h,List.foldl_append]; rfl
def rowR (p : Int) (u : Nat) (R : List (List Int)) (a : List Int) : List Int:=addD p (invN p ((restR p R a).getD (ldG (restR p R a)) 0)) (List.replicate (2 ^ u) 0) (restR p R a)
def putR (p : Int) (u : Nat) (R : List (List Int)) (a : List Int) : List (List Int) × Bool :=
 if ldI (restR p R a) < 0 then (R,false)
 else (let s:=putQ p (ldG (restR p R a)) (rowR p u R a) R R.length; if s.2 then s.1 else s.1++[rowR p u R a],true)
structure EchB (p : Int) (u : Nat) (R : List (List Int)) : Prop where
 ech : Ech p (2 ^ u) ldG R
 srt : R.Pairwise fun r s => kG (ldG r) < kG (ldG s)
theorem EchB.nil {p : Int} {u : Nat} : EchB p u []:=⟨.nil,.nil⟩
theorem putQ_at (p : Int) (lead : Nat) (row : List Int) (R : List (List Int)) : ∀ k,k<=R.length ->
 ((putQ p lead row R k).2=false->(putQ p lead row R k).1=(R.take k).map (clr p lead row)∧∀ r ∈ R.take k,¬ kG lead < kG (ldG r)) ∧
 ((putQ p lead row R k).2=true->∃ j,j < k∧(putQ p lead row R k).1=(R.take j).map (clr p lead row)++row :: ((R.drop j).take (k - j)).map (clr p lead row)∧(∀ r ∈ R.take j,¬ kG lead < kG (ldG r))∧kG lead < kG (ldG (R.getD j [])))
 | 0,_ => ⟨fun _ => ⟨by simp [putQ],by simp⟩,fun h => by simp [putQ] at h⟩
 | k + 1, hk => by
   obtain ⟨h1,h2⟩:=putQ_at p lead row R k (by omega)
   rw [putQ_succ p lead row R (by omega)]
   have et:=take_succ [] R k (by omega)
   generalize putQ p lead row R k=s at *
   obtain ⟨o,b⟩:=s
   simp only at h1 h2
   unfold putStep
   simp only
   cases b with
   | false =>
     obtain ⟨e1,e2⟩:=h1 rfl
     by_cases hl : kG lead < kG (ldG (R.getD k []))
     . rw [if_pos ⟨rfl,hl⟩]
       refine ⟨fun h => (by cases h),fun _ => ⟨k,by omega,?_,e2,hl⟩⟩
       have : (R.drop k).take (k + 1 - k)=[R.getD k []]:=by
        rw [show k + 1 - k=1 by omega,List.drop_eq_getElem_cons (by omega),List.take_succ_cons,List.take_zero,List.getD_eq_getElem?_getD,List.getElem?_eq_getElem (by omega)]; rfl
       rw [this,e1]
       simp
     . rw [if_neg (fun h => hl h.2)]
       refine ⟨fun _ => ⟨by rw [e1,et,List.map_append]; rfl,fun r hr => ?_⟩,fun h => by cases h⟩
       rw [et] at hr
       rcases List.mem_append.1 hr with hr | hr
       . exact e2 r hr
       . rw [List.mem_singleton.1 hr]; exact hl
   | true =>
     obtain ⟨j,hj,e1,e2,e3⟩:=h2 rfl
     rw [if_neg (fun h => by cases h.1)]
     refine ⟨fun h => (by cases h),fun _ => ⟨j,by omega,?_,e2,e3⟩⟩
     have : (R.drop j).take (k + 1 - j)=(R.drop j).take (k - j)++[R.getD k []]:=by
      rw [show k + 1 - j=(k - j) + 1 by omega,take_succ [] (R.drop j) (k - j) (by rw [List.length_drop]; omega)]
      congr 2
      rw [List.getD_eq_getElem?_getD,List.getElem?_drop,show j + (k - j)=k by omega,List.getD_eq_getElem?_getD]
     rw [this,e1]
     simp
section
variable {p : Int} {u : Nat} (hp : p=2∨p=3∨p=5) (hu : u<=6)
include hp hu
theorem restR_facts {R : List (List Int)} {a : List Int} (h : Ech p (2 ^ u) ldG R) (ha : Vec p (2 ^ u) a) : Vec p (2 ^ u) (restR p R a)∧(ldI (restR p R a) < 0↔Sp p (2 ^ u) R a)∧∀ r ∈ R,(restR p R a).getD (ldG r) 0=0:=by
 have hr : Ech p (2 ^ u) ldG R.reverse:=h.perm (List.reverse_perm R).symm
 have h1 : Vec p (2 ^ u) (restR p R a):=redD_vec (p:=p) (by omega) ldG hr.vec ha
 refine ⟨h1,?_,fun r hm => redD_lead (by omega) ldG hr.vec hr.tri ha r (List.mem_reverse.2 hm)⟩
 rw [ldI_neg,← vec_zero_iff (p:=p) h1.1]
 unfold restR
 rw [red_iff (by omega) ldG hr.vec hr.tri ha]
 exact SpEq.perm (by omega) hr.vec (List.reverse_perm R) a
theorem restR_nz {R : List (List Int)} {a : List Int} (h : Ech p (2 ^ u) ldG R) (ha : Vec p (2 ^ u) a) (hl : ¬ ldI (restR p R a) < 0) : 0 < (restR p R a).getD (ldG (restR p R a)) 0∧(restR p R a).getD (ldG (restR p R a)) 0 < p∧ldG (restR p R a) < 2 ^ u:=by
 obtain ⟨h1,_⟩:=restR_facts hp hu h ha
 obtain ⟨h2,h3,h4,_⟩:=(ldI_or (restR p R a)).resolve_left fun h => hl (by rw [h.1]; decide)
 have:=h1.2 (ldG (restR p R a))
 exact ⟨by omega,this.2,by rw [← h1.1]; exact h3⟩
theorem putR_ok {R : List (List Int)} {a : List Int} (h : EchB p u R) (ha : Vec p (2 ^ u) a) : EchB p u (putR p u R a).1∧SpEq p (2 ^ u) (putR p u R a).1 (R++[a])∧((putR p u R a).2=false->(putR p u R a).1=R)∧((putR p u R a).2=true->(putR p u R a).1.length=R.length + 1):=by
 have h64:=pow_le6 hu
 have hp1 : 1 < p:=by omega
 obtain ⟨h1,hiff,hlead⟩:=restR_facts hp hu h.ech ha
 have hA : AllV p (2 ^ u) (R++[a]):=fun x hx => by
  rcases List.mem_append.1 hx with h4 | h4
  . exact h.ech.vec x h4
  . rw [List.mem_singleton.1 h4]; exact ha
 by_cases hl : ldI (restR p R a) < 0
 . unfold putR
   rw [if_pos hl]
   refine ⟨h,fun v => ⟨Sp.trans (by omega) hA fun r hr => Sp.self (by omega) hA (List.mem_append.2 (.inl hr)),Sp.trans (by omega) h.ech.vec fun r hr => ?_⟩,fun _ => rfl,fun h => (by cases h)⟩
   rcases List.mem_append.1 hr with h4 | h4
   . exact Sp.self (by omega) h.ech.vec h4
   . rw [List.mem_singleton.1 h4]; exact hiff.1 hl
 . obtain ⟨n1,n2,n3⟩:=restR_nz hp hu h.ech ha hl
   obtain ⟨i1,i2,i3,_⟩:=invN_ok hp ⟨n1,n2⟩
   have hkey:=Ech.add (κ:=kG) hp1 (lds_G h64) h.ech h1 (k:=invN p ((restR p R a).getD (ldG (restR p R a)) 0)) hlead (by omega) (by rw [Int.mul_comm]; exact i3)
   change Vec p (2 ^ u) (rowR p u R a)∧ldG (rowR p u R a)=_∧(∀ r ∈ R,ldG (clr p (ldG (restR p R a)) (rowR p u R a) r)=ldG r)∧Ech p (2 ^ u) ldG (R.map (clr p (ldG (restR p R a)) (rowR p u R a))++[rowR p u R a]) at hkey
   obtain ⟨hrow,hld,hcd,hech⟩:=hkey
   have hspan : SpEq p (2 ^ u) (R.map (clr p (ldG (restR p R a)) (rowR p u R a))++[rowR p u R a]) (R++[a]):=by
    have hr : Ech p (2 ^ u) ldG R.reverse:=h.ech.perm (List.reverse_perm R).symm
    refine (sp_clr (p:=p) (by omega) (ldG (restR p R a)) h.ech.vec hrow).trans ?_
    have e1 : SpEq p (2 ^ u) (R.reverse++[rowR p u R a]) (R.reverse++[a]):=sp_tri (p:=p) (by omega) ldG hr.vec ha (k:=invN p ((restR p R a).getD (ldG (restR p R a)) 0)) (c:=(restR p R a).getD (ldG (restR p R a)) 0) (by rw [Int.mul_comm]; exact i3)
    have hB : AllV p (2 ^ u) (R++[rowR p u R a]):=h.ech.vec.app fun x hx => by rw [List.mem_singleton.1 hx]; exact hrow
    exact ((SpEq.perm (by omega) hB ((List.reverse_perm R).symm.append_right _)).trans e1).trans (SpEq.perm (by omega) hA ((List.reverse_perm R).symm.append_right _)).symm
   have hne : ∀ r ∈ R,ldG r ≠ ldG (restR p R a):=fun r hr e => by
    have:=hlead r hr
    rw [e] at this
    omega
   have hfin : ∃ j,j<=R.length∧(putR p u R a).1=(R.take j).map (clr p (ldG (restR p R a)) (rowR p u R a))++rowR p u R a :: (R.drop j).map (clr p (ldG (restR p R a)) (rowR p u R a))∧(∀ r ∈ R.take j,¬ kG (ldG (restR p R a)) < kG (ldG r))∧(j < R.length->kG (ldG (restR p R a)) < kG (ldG (R.getD j []))):=by
    obtain ⟨q1,q2⟩:=putQ_at p (ldG (restR p R a)) (rowR p u R a) R R.length (Nat.le_refl _)
    unfold putR
    rw [if_neg hl]
    simp only
    cases hb : (putQ p (ldG (restR p R a)) (rowR p u R a) R R.length).2 with
    | false =>
      obtain ⟨e1,e2⟩:=q1 hb
      rw [if_neg (by decide),e1]
      refine ⟨R.length,Nat.le_refl _,by simp,e2,fun h => by omega⟩
    | true =>
      obtain ⟨j,hj,e1,e2,e3⟩:=q2 hb
      have ht : (R.drop j).take (R.length - j)=R.drop j:=List.take_of_length_le (by rw [List.length_drop]; omega)
      rw [if_pos rfl,e1,ht]
      exact ⟨j,by omega,rfl,e2,fun _ => e3⟩
   have h2 : (putR p u R a).2=true:=by unfold putR; rw [if_neg hl]
   obtain ⟨j,hj,e1,e2,e3⟩:=hfin
   have hperm : (R.map (clr p (ldG (restR p R a)) (rowR p u R a))++[rowR p u R a]).Perm (putR p u R a).1:=by
    rw [e1]
    refine (List.perm_append_comm (l₁:=R.map _) (l₂:=[rowR p u R a])).trans ?_
    rw [List.singleton_append]
    refine List.Perm.trans ?_ (List.perm_middle).symm
    rw [← List.map_append,List.take_append_drop]
   refine ⟨⟨hech.perm hperm,?_⟩,?_,fun h => (by rw [h2] at h; cases h),fun _ => ?_⟩
   . rw [e1]
     have hs:=h.srt
     rw [← List.take_append_drop j R,List.pairwise_append] at hs
     obtain ⟨s1,s2,s3⟩:=hs
     have ht : ∀ r ∈ R.take j,kG (ldG r) < kG (ldG (restR p R a)):=fun r hr => by
      have h5:=e2 r hr
      have h6:=List.mem_of_mem_take hr
      have h7 : kG (ldG r) ≠ kG (ldG (restR p R a)):=fun e => by
       obtain ⟨_,h8,_⟩:=(ldI_or r).resolve_left fun e => h.ech.nz h6 (by rw [e.1]; decide)
       exact hne r h6 (kG_inj (by have:=(h.ech.vec r h6).1; omega) (by omega) e)
      omega
     have hd : ∀ r ∈ R.drop j,kG (ldG (restR p R a)) < kG (ldG r):=fun r hr => by
      by_cases hjl : j < R.length
      . have h5:=e3 hjl
        rw [List.drop_eq_getElem_cons hjl] at hr s2
        have e4 : R.getD j []=R[j]:=by rw [List.getD_eq_getElem?_getD,List.getElem?_eq_getElem hjl]; rfl
        rw [e4] at h5
        rcases List.mem_cons.1 hr with rfl | hr
        . exact h5
        . have:=(List.pairwise_cons.1 s2).1 r hr; omega
      . rw [List.drop_of_length_le (by omega)] at hr; cases hr
     rw [List.pairwise_append]
     refine ⟨?_,?_,?_⟩
     . rw [List.pairwise_map]
       refine List.Pairwise.imp_of_mem (fun {x y} hx hy hxy => ?_) s1
       rw [hcd x (List.mem_of_mem_take hx),hcd y (List.mem_of_mem_take hy)]; exact hxy
     . rw [List.pairwise_cons]
       refine ⟨fun x hx => ?_,?_⟩
       . obtain ⟨r,hr,rfl⟩:=List.mem_map.1 hx
         rw [hcd r (List.mem_of_mem_drop hr),hld]; exact hd r hr
       . rw [List.pairwise_map]
         refine List.Pairwise.imp_of_mem (fun {x y} hx hy hxy => ?_) s2
         rw [hcd x (List.mem_of_mem_drop hx),hcd y (List.mem_of_mem_drop hy)]; exact hxy
     . intro x hx y hy
       obtain ⟨r,hr,rfl⟩:=List.mem_map.1 hx
       have h8:=ht r hr
       rw [hcd r (List.mem_of_mem_take hr)]
       rcases List.mem_cons.1 hy with rfl | hy
       . rw [hld]; exact h8
       . obtain ⟨s,hs,rfl⟩:=List.mem_map.1 hy
         have h9:=hd s hs
         rw [hcd s (List.mem_of_mem_drop hs)]; omega
   . exact (SpEq.perm (by omega) hech.vec hperm).symm.trans hspan
   . have:=hperm.length_eq
     simp only [List.length_append,List.length_map,List.length_singleton] at this
     omega
end
def keepR (p : Int) (u : Nat) (hp : p=2∨p=3∨p=5) (hu : u<=6) : Keep p u (List (List Int)) where
 rows:=id
 inv:=EchB p u
 put:=putR p u
 ech:=fun _ h => h.ech
 ok:=fun _ _ h ha => ⟨(putR_ok hp hu h ha).1,(putR_ok hp hu h ha).2.1⟩
 no:=fun _ _ h ha => (putR_ok hp hu h ha).2.2.1
 yes:=fun _ _ h ha => (putR_ok hp hu h ha).2.2.2
end Abs.Y

namespace Abs.Y
open Go Go.Proofs Abs
open Nat renaming reduceEqDiff -> Qa, reduceLT -> Qb, reduceAdd -> Qc, reduceMul -> Qd, reduceSub -> Qe, reduceLeDiff -> Qf, reduceSubDiff -> Qg, reduceBEq -> Qh
open Bool renaming not_eq_true' -> Ba, not_eq_false' -> Bb, and_eq_true -> Bc, or_eq_true -> Bh, or_eq_false_iff -> Be
open Int renaming ofNat_lt -> Ia, ofNat_le -> Ib, not_lt -> Ic, not_le -> Ie
open Decidable renaming not_not -> Da
set_option maxRecDepth 100000

theorem sumR_add (k : Nat) (f g : Nat->Int) : sumR k (fun i => f i + g i)=sumR k f + sumR k g:=by
 induction k with
 | zero => rfl
 | succ k ih => rw [sumR_succ,sumR_succ,sumR_succ,ih]; omega
theorem sumR_zero (k : Nat) : sumR k (fun _ => 0)=0:=by
 induction k with
 | zero => rfl
 | succ k ih => rw [sumR_succ,ih]; rfl
theorem sumR_comm (k l : Nat) (f : Nat->Nat->Int) : sumR k (fun i => sumR l (fun j => f i j))=sumR l (fun j => sumR k (fun i => f i j)):=by
 induction k with
 | zero => exact (sumR_zero l).symm
 | succ k ih =>
   rw [sumR_succ,ih,← sumR_add]
   exact sumR_congr fun j _ => (sumR_succ k fun i => f i j).symm
theorem sumR_pt {k m : Nat} (x : Nat->Int) (hm : m < k) : sumR k (fun j => if m=j then x j else 0)=x m:=by
 induction k with
 | zero => omega
 | succ k ih =>
   rw [sumR_succ]
   by_cases h : m=k
   . subst h
     rw [if_pos rfl,show sumR m (fun j => if m=j then x j else 0)=sumR m (fun _ => 0) from sumR_congr fun j hj => if_neg (by omega),sumR_zero]; omega
   . rw [if_neg h,ih (by omega)]; omega
theorem sumR_mod {p : Int} {k : Nat} {f g : Nat->Int} (h : ∀ i,i < k->∃ t,f i=g i + p * t) : ∃ T,sumR k f=sumR k g + p * T:=by
 induction k with
 | zero => exact ⟨0,by simp [sumR]⟩
 | succ k ih =>
   obtain ⟨T,hT⟩:=ih fun i hi => h i (by omega)
   obtain ⟨t,ht⟩:=h k (by omega)
   exact ⟨T + t,by rw [sumR_succ,sumR_succ,hT,ht]; grind⟩
theorem sumR_mulr (k : Nat) (c : Int) (f : Nat->Int) : sumR k (fun i => f i * c)=sumR k f * c:=by
 rw [Int.mul_comm,← sumR_mul]; exact sumR_congr fun i _ => Int.mul_comm _ _
def evS (v : List Int) (x : Nat) : Int:=sumR v.length fun m => if m &&& x=m then v.getD m 0 else 0
def ev (p : Int) (v : List Int) (x : Nat) : Int:=evS v x % p
theorem or_sub (m i b : Nat) : (m ||| i) &&& b=m ||| i↔m &&& b=m∧i &&& b=i:=by
 constructor
 . intro h
   refine ⟨Nat.eq_of_testBit_eq fun t => ?_,Nat.eq_of_testBit_eq fun t => ?_⟩ <;>
   . have:=congrArg (fun n => Nat.testBit n t) h
     simp only [Nat.testBit_and,Nat.testBit_or] at this ⊢
     revert this
     cases m.testBit t<;>cases i.testBit t<;>cases b.testBit t<;>decide
 . rintro ⟨h1,h2⟩
   rw [Nat.and_or_distrib_right,h1,h2]
section
variable {p : Int} (hp : 1 < p)
include hp
theorem ev_mul {u : Nat} {a b : List Int} (ha : a.length=2 ^ u) (hb : b.length=2 ^ u) (x : Nat) : ev p (mulD p (2 ^ u) a b) x=ev p a x * ev p b x % p:=by
 have hl : (mulD p (2 ^ u) a b).length=2 ^ u:=(Vec.mulD (by omega) _ _ _).1
 have h1 : ∃ T,evS (mulD p (2 ^ u) a b) x=sumR (2 ^ u) (fun j => sumR (2 ^ u) fun m => sumR (2 ^ u) fun i => if j &&& x=j∧m ||| i=j then a.getD m 0 * b.getD i 0 else 0) + p * T:=by
  unfold evS
  rw [hl]
  refine sumR_mod fun j hj => ?_
  by_cases hx : j &&& x=j
  . rw [if_pos hx,mul_get (by omega) j hj,ha]
    obtain ⟨t,ht⟩:=emod_wit p (sumR (2 ^ u) fun m => a.getD m 0 * shD b m j)
    refine ⟨t,?_⟩
    rw [ht]
    congr 1
    refine sumR_congr fun m _ => ?_
    rw [shD,hb,← sumR_mul]
    refine sumR_congr fun i _ => ?_
    by_cases h : m ||| i=j
    . rw [if_pos h,if_pos ⟨hx,h⟩]
    . rw [if_neg h,if_neg fun h' => h h'.2,Int.mul_zero]
  . refine ⟨0,?_⟩
    rw [if_neg hx,Int.mul_zero,Int.add_zero]
    refine ((sumR_congr fun m _ => ?_).trans (sumR_zero _)).symm
    refine (sumR_congr fun i _ => ?_).trans (sumR_zero _)
    rw [if_neg fun h => hx h.1]
 have h2 : sumR (2 ^ u) (fun j => sumR (2 ^ u) fun m => sumR (2 ^ u) fun i => if j &&& x=j∧m ||| i=j then a.getD m 0 * b.getD i 0 else 0)=evS a x * evS b x:=by
  rw [sumR_comm]
  unfold evS
  rw [ha,hb,← sumR_mulr]
  refine sumR_congr fun m hm => ?_
  rw [sumR_comm,← sumR_mul]
  refine sumR_congr fun i hi => ?_
  have hlt : m ||| i < 2 ^ u:=Nat.or_lt_two_pow hm hi
  have:=sumR_pt (k:=2 ^ u) (fun j => if j &&& x=j then a.getD m 0 * b.getD i 0 else 0) hlt
  refine (sumR_congr (g:=fun j => if m ||| i=j then (if j &&& x=j then a.getD m 0 * b.getD i 0 else 0) else 0) fun j _ => ?_).trans (this.trans ?_)
  . by_cases h : m ||| i=j
    . by_cases h2 : j &&& x=j
      . rw [if_pos ⟨h2,h⟩,if_pos h,if_pos h2]
      . rw [if_neg fun h3 => h2 h3.1,if_pos h,if_neg h2]
    . rw [if_neg fun h3 => h h3.2,if_neg h]
  . show (if (m ||| i) &&& x=m ||| i then _ else _)=_
    by_cases h1 : m &&& x=m
    . by_cases h2 : i &&& x=i
      . rw [if_pos ((or_sub m i x).2 ⟨h1,h2⟩),if_pos h1,if_pos h2]
      . rw [if_neg fun h => h2 ((or_sub m i x).1 h).2,if_pos h1,if_neg h2,Int.mul_zero]
    . rw [if_neg fun h => h1 ((or_sub m i x).1 h).1,if_neg h1,Int.zero_mul]
 obtain ⟨T,hT⟩:=h1
 unfold ev
 rw [hT,h2,Int.add_mul_emod_self_left,Int.mul_emod]
theorem ev_add {k : Int} {n : Nat} {a b : List Int} (ha : a.length=n) (hb : b.length=n) (x : Nat) : ev p (addD p k a b) x=(ev p a x + k * ev p b x) % p:=by
 have hl : (addD p k a b).length=n:=by rw [addD_len (by omega),ha]
 have h1 : ∃ T,evS (addD p k a b) x=evS a x + k * evS b x + p * T:=by
  unfold evS
  rw [hl,ha,hb,← sumR_mul,← sumR_add]
  refine sumR_mod fun m _ => ?_
  by_cases h : m &&& x=m
  . rw [if_pos h,if_pos h,if_pos h,addD_get (by omega)]; exact emod_wit p _
  . rw [if_neg h,if_neg h,if_neg h]; exact ⟨0,by simp⟩
 obtain ⟨T,hT⟩:=h1
 unfold ev
 rw [hT,Int.add_mul_emod_self_left]
 obtain ⟨t1,e1⟩:=emod_wit p (evS a x)
 obtain ⟨t2,e2⟩:=emod_wit p (evS b x)
 rw [e1,e2]
 exact emod_eq_of (-(t1 + k * t2)) (by grind)
def litT (x : Nat) (l : Int) : Bool:=x.testBit (l.natAbs - 1) == decide (0 < l)
theorem sum_below {v : List Int} {x : Nat} : evS v x=sumR x (fun m => if m &&& x=m then v.getD m 0 else 0) + v.getD x 0:=by
 have hgt : ∀ m,x < m->¬ m &&& x=m:=fun m hm e => by have:=Nat.and_le_right (n:=m) (m:=x); omega
 have key : ∀ k,x < k->sumR k (fun m => if m &&& x=m then v.getD m 0 else 0)=sumR x (fun m => if m &&& x=m then v.getD m 0 else 0) + v.getD x 0:=by
  intro k
  induction k with
  | zero => intro h; omega
  | succ k ih =>
    intro h
    rw [sumR_succ]
    by_cases e : x=k
    . subst e; rw [if_pos (Nat.and_self x)]
    . rw [ih (by omega),if_neg (hgt k (by omega))]; omega
 by_cases h : x < v.length
 . exact key _ h
 . unfold evS
   rw [getD_oob (by omega : v.length<=x),Int.add_zero]
   have : ∀ k,v.length<=k->sumR v.length (fun m => if m &&& x=m then v.getD m 0 else 0)=sumR k (fun m => if m &&& x=m then v.getD m 0 else 0):=by
    intro k hk
    obtain ⟨d,rfl⟩:=Nat.exists_eq_add_of_le hk
    clear hk
    induction d with
    | zero => rfl
    | succ d ih => rw [← Nat.add_assoc,sumR_succ,← ih,getD_oob (by omega)]; simp
   exact this x (by omega)
theorem ev_inj {u : Nat} {v w : List Int} (hv : Vec p (2 ^ u) v) (hw : Vec p (2 ^ u) w) (h : ∀ x,x < 2 ^ u->ev p v x=ev p w x) : v=w:=by
 have key : ∀ x,x < 2 ^ u->v.getD x 0=w.getD x 0:=by
  intro x
  induction x using Nat.strongRecOn with
  | ind x ih =>
    intro hx
    have h1:=h x hx
    unfold ev at h1
    rw [sum_below hp,sum_below hp,show (sumR x fun m => if m &&& x=m then v.getD m 0 else 0)=sumR x fun m => if m &&& x=m then w.getD m 0 else 0 from sumR_congr fun m hm => by rw [ih m hm (by omega)]] at h1
    have h2:=hv.2 x
    have h3:=hw.2 x
    have h4:=Int.emod_emod_of_dvd
    generalize (sumR x fun m => if m &&& x=m then w.getD m 0 else 0)=s at h1
    obtain ⟨t1,e1⟩:=emod_wit p (s + v.getD x 0)
    obtain ⟨t2,e2⟩:=emod_wit p (s + w.getD x 0)
    have h5 : v.getD x 0 - w.getD x 0=p * (t2 - t1):=by rw [Int.mul_sub]; omega
    have h6 : t2 - t1=0:=by
     rcases Int.lt_trichotomy (t2 - t1) 0 with h6 | h6 | h6
     . have:=Int.mul_le_mul_of_nonneg_left (show t2 - t1<=-1 by omega) (show 0<=p by omega); omega
     . exact h6
     . have:=Int.mul_le_mul_of_nonneg_left (show 1<=t2 - t1 by omega) (show 0<=p by omega); omega
    rw [h6] at h5; omega
 refine vec_ext (p:=p) hv.1 hw.1 fun i => ?_
 by_cases hi : i < 2 ^ u
 . exact key i hi
 . rw [getD_oob (by rw [hv.1]; omega),getD_oob (by rw [hw.1]; omega)]
end
end Abs.Y
