/- What functions of this program compute, over plain data. No condition. -/
import Derived.Test.YtckigpgkmdhfoaaA2
set_option linter.all false
namespace Abs.Y
open Go Go.Proofs Abs
open Nat renaming reduceEqDiff -> Qa, reduceLT -> Qb, reduceAdd -> Qc, reduceMul -> Qd, reduceSub -> Qe, reduceLeDiff -> Qf, reduceSubDiff -> Qg, reduceBEq -> Qh
open Bool renaming not_eq_true' -> Ba, not_eq_false' -> Bb, and_eq_true -> Bc, or_eq_true -> Bh, or_eq_false_iff -> Be
open Int renaming ofNat_lt -> Ia, ofNat_le -> Ib, not_lt -> Ic, not_le -> Ie
open Decidable renaming not_not -> Da
set_option maxRecDepth 100000

def sumR (k : Nat) (f : Nat->Int) : Int:=(List.range k).foldl (fun s i => s + f i) 0
theorem sumR_succ (k : Nat) (f : Nat->Int) : sumR (k + 1) f=sumR k f + f k:=by
 rw [sumR,List.range_succ,List.foldl_append]; rfl
theorem sumR_congr {k : Nat} {f g : Nat->Int} (h : ∀ i,i < k->f i=g i) : sumR k f=sumR k g:=by
 induction k with
 | zero => rfl
 | succ k ih => rw [sumR_succ,sumR_succ,ih fun i hi => h i (by omega),h k (by omega)]
theorem sumR_mul (k : Nat) (c : Int) (f : Nat->Int) : sumR k (fun i => c * f i)=c * sumR k f:=by
 induction k with
 | zero => simp [sumR]
 | succ k ih => rw [sumR_succ,sumR_succ,ih]; grind
theorem st_fold {p : Int} (hp : 0 < p) {n : Nat} (g : Nat->Nat) (h : Nat->Int) {v : List Int} (hv : Vec p n v) (k j : Nat) (hj : j < n) :
 ((List.range k).foldl (fun v i => stP p v (g i) (h i)) v).getD j 0=(v.getD j 0 + sumR k (fun i => if g i=j then h i else 0)) % p:=by
 induction k with
 | zero =>
   have:=hv.2 j
   simp only [List.range_zero,List.foldl_nil,sumR,Int.add_zero]
   rw [Int.emod_eq_of_lt this.1 this.2]
 | succ k ih =>
   rw [List.range_succ,List.foldl_append,sumR_succ]
   simp only [List.foldl_cons,List.foldl_nil]
   have hw : Vec p n ((List.range k).foldl (fun v i => stP p v (g i) (h i)) v):=fold_vec (fun v m h => h.st hp _ _) _ hv
   generalize (List.range k).foldl (fun v i => stP p v (g i) (h i)) v=w at *
   unfold stP
   rw [getD_set]
   by_cases e : g k=j
   . rw [if_pos ⟨e,by rw [hw.1]; exact hj⟩,if_pos e,e,ih,Int.emod_add_emod]
     congr 1; omega
   . rw [if_neg (fun h => e h.1),if_neg e,ih,Int.add_zero]
def shD (b : List Int) (m j : Nat) : Int:=sumR b.length fun i => if m ||| i=j then b.getD i 0 else 0
theorem row_get {p : Int} (hp : 0 < p) {n : Nat} {v b : List Int} (hv : Vec p n v) (m : Nat) (c : Int) (j : Nat) (hj : j < n) : (rowD p b m c v).getD j 0=(v.getD j 0 + c * shD b m j) % p:=by
 unfold rowD
 rw [st_fold hp (fun i => m ||| i) (fun i => c * b.getD i 0) hv b.length j hj]
 congr 2
 unfold shD
 rw [← sumR_mul]
 exact sumR_congr fun i _ => by split<;>simp
theorem mul_get {p : Int} (hp : 0 < p) {n : Nat} {a b : List Int} (j : Nat) (hj : j < n) : (mulD p n a b).getD j 0=sumR a.length (fun m => a.getD m 0 * shD b m j) % p:=by
 have key : ∀ k,((List.range k).foldl (fun v m => rowD p b m (a.getD m 0) v) (List.replicate n 0)).getD j 0=sumR k (fun m => a.getD m 0 * shD b m j) % p:=by
  intro k
  induction k with
  | zero =>
    show (List.replicate n (0 : Int)).getD j 0=_
    rw [getD_rep]; simp [sumR]
  | succ k ih =>
    rw [List.range_succ,List.foldl_append,sumR_succ]
    simp only [List.foldl_cons,List.foldl_nil]
    have hw : Vec p n ((List.range k).foldl (fun v m => rowD p b m (a.getD m 0) v) (List.replicate n 0)):=fold_vec (fun v m h => h.rowD hp b m _) _ (Vec.zero hp n)
    rw [row_get hp hw _ _ j hj,ih,Int.emod_add_emod]
 exact key a.length
theorem mul_zero {p : Int} (hp : 0 < p) {n : Nat} (b : List Int) : mulD p n (List.replicate n 0) b=List.replicate n 0:=by
 have h1:=Vec.mulD (p:=p) hp n (List.replicate n 0) b
 refine vec_ext (p:=p) (n:=n) h1.1 (by simp) fun j => ?_
 rw [getD_rep]
 by_cases hj : j < n
 . rw [mul_get hp j hj,sumR_congr (g:=fun _ => 0 * 0) fun i _ => by rw [getD_rep]; simp]
   rw [sumR_mul]; simp
 . exact getD_oob (by rw [h1.1]; omega)

def kG (m : Nat) : Nat:=cnt m * 64 + m
theorem kG_inj {i j : Nat} (hi : i < 64) (hj : j < 64) (h : kG i=kG j) : i=j:=by unfold kG at h; omega
def ldI (v : List Int) : Int:=(List.range v.length).foldl (fun o m => if v.getD m 0 ≠ 0∧(o < 0∨kG o.toNat < kG m) then (m : Int) else o) (-1)
def ldG (v : List Int) : Nat:=(ldI v).toNat
theorem ldI_inv (v : List Int) (k : Nat) : let o:=(List.range k).foldl (fun o m => if v.getD m 0 ≠ 0∧(o < 0∨kG o.toNat < kG m) then (m : Int) else o) (-1)
 (o=-1∧∀ i,i < k->v.getD i 0=0)∨∃ m : Nat,o=m∧m < k∧v.getD m 0 ≠ 0∧∀ i,i < k->v.getD i 0 ≠ 0->kG i<=kG m:=by
 induction k with
 | zero => exact .inl ⟨rfl,fun i hi => by omega⟩
 | succ k ih =>
   rw [List.range_succ,List.foldl_append]
   simp only [List.foldl_cons,List.foldl_nil] at ih ⊢
   generalize (List.range k).foldl (fun o m => if v.getD m 0 ≠ 0∧(o < 0∨kG o.toNat < kG m) then (m : Int) else o) (-1)=o at *
   rcases ih with ⟨rfl,h⟩ | ⟨m,rfl,hm,hv,h⟩
   . by_cases e : v.getD k 0=0
     . rw [if_neg (fun h => h.1 e)]
       refine .inl ⟨rfl,fun i hi => ?_⟩
       by_cases e2 : i=k
       . rw [e2]; exact e
       . exact h i (by omega)
     . rw [if_pos ⟨e,.inl (by decide)⟩]
       refine .inr ⟨k,rfl,by omega,e,fun i hi h2 => ?_⟩
       by_cases e2 : i=k
       . rw [e2]; exact Nat.le_refl _
       . exact absurd (h i (by omega)) h2
   . by_cases e : v.getD k 0 ≠ 0∧((m : Int) < 0∨kG (m : Int).toNat < kG k)
     . rw [if_pos e]
       have h3 : kG m < kG k:=by
        rcases e.2 with h | h
        . omega
        . simpa using h
       refine .inr ⟨k,rfl,by omega,e.1,fun i hi h2 => ?_⟩
       by_cases e2 : i=k
       . rw [e2]; exact Nat.le_refl _
       . exact Nat.le_trans (h i (by omega) h2) (Nat.le_of_lt h3)
     . rw [if_neg e]
       refine .inr ⟨m,rfl,by omega,hv,fun i hi h2 => ?_⟩
       by_cases e2 : i=k
       . subst e2
         have : ¬ kG m < kG i:=fun h4 => e ⟨h2,.inr (by simpa using h4)⟩
         omega
       . exact h i (by omega) h2
theorem ldI_or (v : List Int) : (ldI v=-1∧∀ i,v.getD i 0=0)∨(ldI v=(ldG v : Nat)∧ldG v < v.length∧v.getD (ldG v) 0 ≠ 0∧∀ i,v.getD i 0 ≠ 0->kG i<=kG (ldG v)):=by
 rcases ldI_inv v v.length with ⟨h1,h2⟩ | ⟨m,h1,h2,h3,h4⟩
 . refine .inl ⟨h1,fun i => ?_⟩
   by_cases hi : i < v.length
   . exact h2 i hi
   . exact getD_oob (by omega)
 . have e : ldI v=(m : Int):=h1
   have e2 : ldG v=m:=by unfold ldG; rw [e]; simp
   rw [e2]
   exact .inr ⟨e,h2,h3,fun i hi => h4 i (lt_of_get hi) hi⟩
theorem ldI_neg {v : List Int} : ldI v < 0↔∀ i,v.getD i 0=0:=by
 rcases ldI_or v with ⟨h1,h2⟩ | ⟨h1,h2,h3,h4⟩
 . exact ⟨fun _ => h2,fun _ => by rw [h1]; decide⟩
 . exact ⟨fun h => by omega,fun h => absurd (h _) h3⟩
theorem lds_G {n : Nat} (hn : n<=64) : Lds kG n ldG:=by
 refine ⟨fun i j hi hj h => kG_inj (by omega) (by omega) h,fun v hv i hi => ?_⟩
 rcases ldI_or v with ⟨_,h2⟩ | ⟨_,_,h3,h4⟩
 . exact absurd (h2 i) hi
 . exact ⟨h3,h4 i hi⟩
end Abs.Y

namespace Abs.Y
open Go Go.Proofs Abs
open Nat renaming reduceEqDiff -> Qa, reduceLT -> Qb, reduceAdd -> Qc, reduceMul -> Qd, reduceSub -> Qe, reduceLeDiff -> Qf, reduceSubDiff -> Qg, reduceBEq -> Qh
open Bool renaming not_eq_true' -> Ba, not_eq_false' -> Bb, and_eq_true -> Bc, or_eq_true -> Bh, or_eq_false_iff -> Be
open Int renaming ofNat_lt -> Ia, ofNat_le -> Ib, not_lt -> Ic, not_le -> Ie
open Decidable renaming not_not -> Da
set_option maxRecDepth 100000

def mulX (p : Int) (u : Nat) (v : List Int) (x : Int) : List Int:=mulD p (2 ^ u) v (litD p u x)
structure Cl (p : Int) (u : Nat) (cs : List (List Int)) (d : Int) (W : List Int->Prop) : Prop where
 zero : W (List.replicate (2 ^ u) 0)
 add : ∀ v w k,Vec p (2 ^ u) v->Vec p (2 ^ u) w->W v->W w->W (addD p k v w)
 cl : ∀ c ∈ cs,(c.length : Int)<=d->W (clauseD p u c)
 mul : ∀ v,Vec p (2 ^ u) v->W v->degD v < d->∀ x : Int,1<=x->x<=u->W (mulX p u v x)
def Mn (p : Int) (u : Nat) (cs : List (List Int)) (d : Int) (v : List Int) : Prop:=∀ W,Cl p u cs d W->W v
theorem Ech.nz {p : Int} {n : Nat} {R : List (List Int)} (h : Ech p n ldG R) {r : List Int} (hr : r ∈ R) : ¬ ldI r < 0:=fun hn => by
 have:=h.one r hr
 rw [ldI_neg.1 hn] at this
 exact absurd this (by decide)
end Abs.Y

namespace Abs.Y
open Go Go.Proofs Abs
open Nat renaming reduceEqDiff -> Qa, reduceLT -> Qb, reduceAdd -> Qc, reduceMul -> Qd, reduceSub -> Qe, reduceLeDiff -> Qf, reduceSubDiff -> Qg, reduceBEq -> Qh
open Bool renaming not_eq_true' -> Ba, not_eq_false' -> Bb, and_eq_true -> Bc, or_eq_true -> Bh, or_eq_false_iff -> Be
open Int renaming ofNat_lt -> Ia, ofNat_le -> Ib, not_lt -> Ic, not_le -> Ie
open Decidable renaming not_not -> Da
set_option maxRecDepth 100000

theorem AllV.app {p : Int} {n : Nat} {R l : List (List Int)} (h : AllV p n R) (h' : AllV p n l) : AllV p n (R++l):=fun x hx => by
 rcases List.mem_append.1 hx with h1 | h1
 . exact h x h1
 . exact h' x h1
theorem SpEq.trans {p : Int} {n : Nat} {R R' R'' : List (List Int)} (h : SpEq p n R R') (h' : SpEq p n R' R'') : SpEq p n R R'':=fun v => (h v).trans (h' v)
theorem SpEq.symm {p : Int} {n : Nat} {R R' : List (List Int)} (h : SpEq p n R R') : SpEq p n R' R:=fun v => (h v).symm
theorem Sp.mono {p : Int} {n : Nat} {R R' : List (List Int)} {v : List Int} (h : ∀ r ∈ R,r ∈ R') (hv : Sp p n R v) : Sp p n R' v:=by
 induction hv with
 | zero => exact .zero
 | add k _ hr ih => exact .add k ih (h _ hr)
theorem SpEq.app {p : Int} {n : Nat} (hp : 0 < p) {R R' : List (List Int)} (l : List (List Int)) (hR : AllV p n R) (hR' : AllV p n R') (hl : AllV p n l) (h : SpEq p n R R') : SpEq p n (R++l) (R'++l):=fun v => by
 constructor
 . refine Sp.trans hp (hR'.app hl) fun r hr => ?_
   rcases List.mem_append.1 hr with h1 | h1
   . exact Sp.mono (fun x hx => List.mem_append.2 (.inl hx)) ((h r).1 (Sp.self hp hR h1))
   . exact Sp.self hp (hR'.app hl) (List.mem_append.2 (.inr h1))
 . refine Sp.trans hp (hR.app hl) fun r hr => ?_
   rcases List.mem_append.1 hr with h1 | h1
   . exact Sp.mono (fun x hx => List.mem_append.2 (.inl hx)) ((h r).2 (Sp.self hp hR' h1))
   . exact Sp.self hp (hR.app hl) (List.mem_append.2 (.inr h1))
structure Keep (p : Int) (u : Nat) (S : Type) where
 rows : S->List (List Int)
 inv : S->Prop
 put : S->List Int->S × Bool
 ech : ∀ s,inv s->Ech p (2 ^ u) ldG (rows s)
 ok : ∀ s a,inv s->Vec p (2 ^ u) a->inv (put s a).1∧SpEq p (2 ^ u) (rows (put s a).1) (rows s++[a])
 no : ∀ s a,inv s->Vec p (2 ^ u) a->(put s a).2=false->(put s a).1=s
 yes : ∀ s a,inv s->Vec p (2 ^ u) a->(put s a).2=true->(rows (put s a).1).length=(rows s).length + 1
section
variable {p : Int} {u : Nat} {S : Type} (K : Keep p u S)
def Keep.puts (q : S × Bool) (l : List (List Int)) : S × Bool:=l.foldl (fun q a => ((K.put q.1 a).1,q.2 || (K.put q.1 a).2)) q
variable (hp : 1 < p) (hu : u<=6)
include hp
def prodsR (p : Int) (u : Nat) (d : Int) (r : List Int) : List (List Int):=if degD r < d then (List.range u).map (fun v => mulX p u r ((v : Nat) + 1 : Int)) else []
def prods (p : Int) (u : Nat) (d : Int) (rows : List (List Int)) : List (List Int):=rows.flatMap (prodsR p u d)
omit hp in
def Keep.round (d : Int) (s : S) : S × Bool:=K.puts (s,false) (prods p u d (K.rows s))
def clausesD (p : Int) (u : Nat) (d : Int) (cs : List (List Int)) : List (List Int):=(cs.filter fun c => decide ((c.length : Int)<=d)).map (clauseD p u)
def Keep.base (cs : List (List Int)) (d : Int) (s : S) : S:=(K.puts (s,false) (clausesD p u d cs)).1
def Keep.it (d : Int) (s : S) : Nat->S × Bool
 | 0 => (s,true)
 | i + 1 => K.round d (Keep.it d s i).1
include hu
def Keep.fin (cs : List (List Int)) (d : Int) (s : S) : S:=(K.it d (K.base cs d s) 65).1
end
def Closed (p : Int) (u : Nat) (d : Int) (R : List (List Int)) : Prop:=∀ a ∈ prods p u d R,Sp p (2 ^ u) R a
end Abs.Y

namespace Abs.Y
open Go Go.Proofs Abs
open Nat renaming reduceEqDiff -> Qa, reduceLT -> Qb, reduceAdd -> Qc, reduceMul -> Qd, reduceSub -> Qe, reduceLeDiff -> Qf, reduceSubDiff -> Qg, reduceBEq -> Qh
open Bool renaming not_eq_true' -> Ba, not_eq_false' -> Bb, and_eq_true -> Bc, or_eq_true -> Bh, or_eq_false_iff -> Be
open Int renaming ofNat_lt -> Ia, ofNat_le -> Ib, not_lt -> Ic, not_le -> Ie
open Decidable renaming not_not -> Da
set_option maxRecDepth 100000

def restR (p : Int) (R : List (List Int)) (a : List Int) : List Int:=redD p ldG R.reverse a
def putStep (p : Int) (lead : Nat) (row : List Int) (s : List (List Int) × Bool) (r : List Int) : List (List Int) × Bool :=
 if s.2=false∧kG lead < kG (ldG r) then (s.1++[row]++[clr p lead row r],true) else (s.1++[clr p lead row r],s.2)
def putQ (p : Int) (lead : Nat) (row : List Int) (R : List (List Int)) (k : Nat) : List (List Int) × Bool:=(R.take k).foldl (putStep p lead row) ([],false)
theorem putQ_succ (p : Int) (lead : Nat) (row : List Int) (R : List (List Int)) {k : Nat} (h : k < R.length) : putQ p lead row R (k + 1)=putStep p lead row (putQ p lead row R k) (R.getD k []):=by
 rw [putQ,take_succ [] R k h,List.foldl_append]; rfl
def rowR (p : Int) (u : Nat) (R : List (List Int)) (a : List Int) : List Int:=addD p (invN p ((restR p R a).getD (ldG (restR p R a)) 0)) (List.replicate (2 ^ u) 0) (restR p R a)
def putR (p : Int) (u : Nat) (R : List (List Int)) (a : List Int) : List (List Int) × Bool :=
 if ldI (restR p R a) < 0 then (R,false)
 else (let s:=putQ p (ldG (restR p R a)) (rowR p u R a) R R.length; if s.2 then s.1 else s.1++[rowR p u R a],true)
structure EchB (p : Int) (u : Nat) (R : List (List Int)) : Prop where
 ech : Ech p (2 ^ u) ldG R
 srt : R.Pairwise fun r s => kG (ldG r) < kG (ldG s)
theorem EchB.nil {p : Int} {u : Nat} : EchB p u []:=⟨.nil,.nil⟩
theorem putQ_at (p : Int) (lead : Nat) (row : List Int) (R : List (List Int)) : ∀ k,k<=R.length ->
 ((putQ p lead row R k).2=false->(putQ p lead row R k).1=(R.take k).map (clr p lead row)∧∀ r ∈ R.take k,¬ kG lead < kG (ldG r)) ∧
 ((putQ p lead row R k).2=true->∃ j,j < k∧(putQ p lead row R k).1=(R.take j).map (clr p lead row)++row :: ((R.drop j).take (k - j)).map (clr p lead row)∧(∀ r ∈ R.take j,¬ kG lead < kG (ldG r))∧kG lead < kG (ldG (R.getD j [])))
 | 0,_ => ⟨fun _ => ⟨by simp [putQ],by simp⟩,fun h => by simp [putQ] at h⟩
 | k + 1, hk => by
   obtain ⟨h1,h2⟩:=putQ_at p lead row R k (by omega)
   rw [putQ_succ p lead row R (by omega)]
   have et:=take_succ [] R k (by omega)
   generalize putQ p lead row R k=s at *
   obtain ⟨o,b⟩:=s
   simp only at h1 h2
   unfold putStep
   simp only
   cases b with
   | false =>
     obtain ⟨e1,e2⟩:=h1 rfl
     by_cases hl : kG lead < kG (ldG (R.getD k []))
     . rw [if_pos ⟨rfl,hl⟩]
       refine ⟨fun h => (by cases h),fun _ => ⟨k,by omega,?_,e2,hl⟩⟩
       have : (R.drop k).take (k + 1 - k)=[R.getD k []]:=by
        rw [show k + 1 - k=1 by omega,List.drop_eq_getElem_cons (by omega),List.take_succ_cons,List.take_zero,List.getD_eq_getElem?_getD,List.getElem?_eq_getElem (by omega)]; rfl
       rw [this,e1]
       simp
     . rw [if_neg (fun h => hl h.2)]
       refine ⟨fun _ => ⟨by rw [e1,et,List.map_append]; rfl,fun r hr => ?_⟩,fun h => by cases h⟩
       rw [et] at hr
       rcases List.mem_append.1 hr with hr | hr
       . exact e2 r hr
       . rw [List.mem_singleton.1 hr]; exact hl
   | true =>
     obtain ⟨j,hj,e1,e2,e3⟩:=h2 rfl
     rw [if_neg (fun h => by cases h.1)]
     refine ⟨fun h => (by cases h),fun _ => ⟨j,by omega,?_,e2,e3⟩⟩
     have : (R.drop j).take (k + 1 - j)=(R.drop j).take (k - j)++[R.getD k []]:=by
      rw [show k + 1 - j=(k - j) + 1 by omega,take_succ [] (R.drop j) (k - j) (by rw [List.length_drop]; omega)]
      congr 2
      rw [List.getD_eq_getElem?_getD,List.getElem?_drop,show j + (k - j)=k by omega,List.getD_eq_getElem?_getD]
     rw [this,e1]
     simp
section
variable {p : Int} {u : Nat} (hp : p=2∨p=3∨p=5) (hu : u<=6)
include hp hu
theorem restR_facts {R : List (List Int)} {a : List Int} (h : Ech p (2 ^ u) ldG R) (ha : Vec p (2 ^ u) a) : Vec p (2 ^ u) (restR p R a)∧(ldI (restR p R a) < 0↔Sp p (2 ^ u) R a)∧∀ r ∈ R,(restR p R a).getD (ldG r) 0=0:=by
 have hr : Ech p (2 ^ u) ldG R.reverse:=h.perm (List.reverse_perm R).symm
 have h1 : Vec p (2 ^ u) (restR p R a):=redD_vec (p:=p) (by omega) ldG hr.vec ha
 refine ⟨h1,?_,fun r hm => redD_lead (by omega) ldG hr.vec hr.tri ha r (List.mem_reverse.2 hm)⟩
 rw [ldI_neg,← vec_zero_iff (p:=p) h1.1]
 unfold restR
 rw [red_iff (by omega) ldG hr.vec hr.tri ha]
 exact SpEq.perm (by omega) hr.vec (List.reverse_perm R) a
theorem restR_nz {R : List (List Int)} {a : List Int} (h : Ech p (2 ^ u) ldG R) (ha : Vec p (2 ^ u) a) (hl : ¬ ldI (restR p R a) < 0) : 0 < (restR p R a).getD (ldG (restR p R a)) 0∧(restR p R a).getD (ldG (restR p R a)) 0 < p∧ldG (restR p R a) < 2 ^ u:=by
 obtain ⟨h1,_⟩:=restR_facts hp hu h ha
 obtain ⟨h2,h3,h4,_⟩:=(ldI_or (restR p R a)).resolve_left fun h => hl (by rw [h.1]; decide)
 have:=h1.2 (ldG (restR p R a))
 exact ⟨by omega,this.2,by rw [← h1.1]; exact h3⟩
theorem putR_ok {R : List (List Int)} {a : List Int} (h : EchB p u R) (ha : Vec p (2 ^ u) a) : EchB p u (putR p u R a).1∧SpEq p (2 ^ u) (putR p u R a).1 (R++[a])∧((putR p u R a).2=false->(putR p u R a).1=R)∧((putR p u R a).2=true->(putR p u R a).1.length=R.length + 1):=by
 have h64:=pow_le6 hu
 have hp1 : 1 < p:=by omega
 obtain ⟨h1,hiff,hlead⟩:=restR_facts hp hu h.ech ha
 have hA : AllV p (2 ^ u) (R++[a]):=fun x hx => by
  rcases List.mem_append.1 hx with h4 | h4
  . exact h.ech.vec x h4
  . rw [List.mem_singleton.1 h4]; exact ha
 by_cases hl : ldI (restR p R a) < 0
 . unfold putR
   rw [if_pos hl]
   refine ⟨h,fun v => ⟨Sp.trans (by omega) hA fun r hr => Sp.self (by omega) hA (List.mem_append.2 (.inl hr)),Sp.trans (by omega) h.ech.vec fun r hr => ?_⟩,fun _ => rfl,fun h => (by cases h)⟩
   rcases List.mem_append.1 hr with h4 | h4
   . exact Sp.self (by omega) h.ech.vec h4
   . rw [List.mem_singleton.1 h4]; exact hiff.1 hl
 . obtain ⟨n1,n2,n3⟩:=restR_nz hp hu h.ech ha hl
   obtain ⟨i1,i2,i3,_⟩:=invN_ok hp ⟨n1,n2⟩
   have hkey:=Ech.add (κ:=kG) hp1 (lds_G h64) h.ech h1 (k:=invN p ((restR p R a).getD (ldG (restR p R a)) 0)) hlead (by omega) (by rw [Int.mul_comm]; exact i3)
   change Vec p (2 ^ u) (rowR p u R a)∧ldG (rowR p u R a)=_∧(∀ r ∈ R,ldG (clr p (ldG (restR p R a)) (rowR p u R a) r)=ldG r)∧Ech p (2 ^ u) ldG (R.map (clr p (ldG (restR p R a)) (rowR p u R a))++[rowR p u R a]) at hkey
   obtain ⟨hrow,hld,hcd,hech⟩:=hkey
   have hspan : SpEq p (2 ^ u) (R.map (clr p (ldG (restR p R a)) (rowR p u R a))++[rowR p u R a]) (R++[a]):=by
    have hr : Ech p (2 ^ u) ldG R.reverse:=h.ech.perm (List.reverse_perm R).symm
    refine (sp_clr (p:=p) (by omega) (ldG (restR p R a)) h.ech.vec hrow).trans ?_
    have e1 : SpEq p (2 ^ u) (R.reverse++[rowR p u R a]) (R.reverse++[a]):=sp_tri (p:=p) (by omega) ldG hr.vec ha (k:=invN p ((restR p R a).getD (ldG (restR p R a)) 0)) (c:=(restR p R a).getD (ldG (restR p R a)) 0) (by rw [Int.mul_comm]; exact i3)
    have hB : AllV p (2 ^ u) (R++[rowR p u R a]):=h.ech.vec.app fun x hx => by rw [List.mem_singleton.1 hx]; exact hrow
    exact ((SpEq.perm (by omega) hB ((List.reverse_perm R).symm.append_right _)).trans e1).trans (SpEq.perm (by omega) hA ((List.reverse_perm R).symm.append_right _)).symm
   have hne : ∀ r ∈ R,ldG r ≠ ldG (restR p R a):=fun r hr e => by
    have:=hlead r hr
    rw [e] at this
    omega
   have hfin : ∃ j,j<=R.length∧(putR p u R a).1=(R.take j).map (clr p (ldG (restR p R a)) (rowR p u R a))++rowR p u R a :: (R.drop j).map (clr p (ldG (restR p R a)) (rowR p u R a))∧(∀ r ∈ R.take j,¬ kG (ldG (restR p R a)) < kG (ldG r))∧(j < R.length->kG (ldG (restR p R a)) < kG (ldG (R.getD j []))):=by
    obtain ⟨q1,q2⟩:=putQ_at p (ldG (restR p R a)) (rowR p u R a) R R.length (Nat.le_refl _)
    unfold putR
    rw [if_neg hl]
    simp only
    cases hb : (putQ p (ldG (restR p R a)) (rowR p u R a) R R.length).2 with
    | false =>
      obtain ⟨e1,e2⟩:=q1 hb
      rw [if_neg (by decide),e1]
      refine ⟨R.length,Nat.le_refl _,by simp,e2,fun h => by omega⟩
    | true =>
      obtain ⟨j,hj,e1,e2,e3⟩:=q2 hb
      have ht : (R.drop j).take (R.length - j)=R.drop j:=List.take_of_length_le (by rw [List.length_drop]; omega)
      rw [if_pos rfl,e1,ht]
      exact ⟨j,by omega,rfl,e2,fun _ => e3⟩
   have h2 : (putR p u R a).2=true:=by unfold putR; rw [if_neg hl]
   obtain ⟨j,hj,e1,e2,e3⟩:=hfin
   have hperm : (R.map (clr p (ldG (restR p R a)) (rowR p u R a))++[rowR p u R a]).Perm (putR p u R a).1:=by
    rw [e1]
    refine (List.perm_append_comm (l₁:=R.map _) (l₂:=[rowR p u R a])).trans ?_
    rw [List.singleton_append]
    refine List.Perm.trans ?_ (List.perm_middle).symm
    rw [← List.map_append,List.take_append_drop]
   refine ⟨⟨hech.perm hperm,?_⟩,?_,fun h => (by rw [h2] at h; cases h),fun _ => ?_⟩
   . rw [e1]
     have hs:=h.srt
     rw [← List.take_append_drop j R,List.pairwise_append] at hs
     obtain ⟨s1,s2,s3⟩:=hs
     have ht : ∀ r ∈ R.take j,kG (ldG r) < kG (ldG (restR p R a)):=fun r hr => by
      have h5:=e2 r hr
      have h6:=List.mem_of_mem_take hr
      have h7 : kG (ldG r) ≠ kG (ldG (restR p R a)):=fun e => by
       obtain ⟨_,h8,_⟩:=(ldI_or r).resolve_left fun e => h.ech.nz h6 (by rw [e.1]; decide)
       exact hne r h6 (kG_inj (by have:=(h.ech.vec r h6).1; omega) (by omega) e)
      omega
     have hd : ∀ r ∈ R.drop j,kG (ldG (restR p R a)) < kG (ldG r):=fun r hr => by
      by_cases hjl : j < R.length
      . have h5:=e3 hjl
        rw [List.drop_eq_getElem_cons hjl] at hr s2
        have e4 : R.getD j []=R[j]:=by rw [List.getD_eq_getElem?_getD,List.getElem?_eq_getElem hjl]; rfl
        rw [e4] at h5
        rcases List.mem_cons.1 hr with rfl | hr
        . exact h5
        . have:=(List.pairwise_cons.1 s2).1 r hr; omega
      . rw [List.drop_of_length_le (by omega)] at hr; cases hr
     rw [List.pairwise_append]
     refine ⟨?_,?_,?_⟩
     . rw [List.pairwise_map]
       refine List.Pairwise.imp_of_mem (fun {x y} hx hy hxy => ?_) s1
       rw [hcd x (List.mem_of_mem_take hx),hcd y (List.mem_of_mem_take hy)]; exact hxy
     . rw [List.pairwise_cons]
       refine ⟨fun x hx => ?_,?_⟩
       . obtain ⟨r,hr,rfl⟩:=List.mem_map.1 hx
         rw [hcd r (List.mem_of_mem_drop hr),hld]; exact hd r hr
       . rw [List.pairwise_map]
         refine List.Pairwise.imp_of_mem (fun {x y} hx hy hxy => ?_) s2
         rw [hcd x (List.mem_of_mem_drop hx),hcd y (List.mem_of_mem_drop hy)]; exact hxy
     . intro x hx y hy
       obtain ⟨r,hr,rfl⟩:=List.mem_map.1 hx
       have h8:=ht r hr
       rw [hcd r (List.mem_of_mem_take hr)]
       rcases List.mem_cons.1 hy with rfl | hy
       . rw [hld]; exact h8
       . obtain ⟨s,hs,rfl⟩:=List.mem_map.1 hy
         have h9:=hd s hs
         rw [hcd s (List.mem_of_mem_drop hs)]; omega
   . exact (SpEq.perm (by omega) hech.vec hperm).symm.trans hspan
   . have:=hperm.length_eq
     simp only [List.length_append,List.length_map,List.length_singleton] at this
     omega
end
def keepR (p : Int) (u : Nat) (hp : p=2∨p=3∨p=5) (hu : u<=6) : Keep p u (List (List Int)) where
 rows:=id
 inv:=EchB p u
 put:=putR p u
 ech:=fun _ h => h.ech
 ok:=fun _ _ h ha => ⟨(putR_ok hp hu h ha).1,(putR_ok hp hu h ha).2.1⟩
 no:=fun _ _ h ha => (putR_ok hp hu h ha).2.2.1
 yes:=fun _ _ h ha => (putR_ok hp hu h ha).2.2.2
end Abs.Y

namespace Abs.Y
open Go Go.Proofs Abs
open Nat renaming reduceEqDiff -> Qa, reduceLT -> Qb, reduceAdd -> Qc, reduceMul -> Qd, reduceSub -> Qe, reduceLeDiff -> Qf, reduceSubDiff -> Qg, reduceBEq -> Qh
open Bool renaming not_eq_true' -> Ba, not_eq_false' -> Bb, and_eq_true -> Bc, or_eq_true -> Bh, or_eq_false_iff -> Be
open Int renaming ofNat_lt -> Ia, ofNat_le -> Ib, not_lt -> Ic, not_le -> Ie
open Decidable renaming not_not -> Da
set_option maxRecDepth 100000

theorem sumR_add (k : Nat) (f g : Nat->Int) : sumR k (fun i => f i + g i)=sumR k f + sumR k g:=by
 induction k with
 | zero => rfl
 | succ k ih => rw [sumR_succ,sumR_succ,sumR_succ,ih]; omega
theorem sumR_zero (k : Nat) : sumR k (fun _ => 0)=0:=by
 induction k with
 | zero => rfl
 | succ k ih => rw [sumR_succ,ih]; rfl
theorem sumR_comm (k l : Nat) (f : Nat->Nat->Int) : sumR k (fun i => sumR l (fun j => f i j))=sumR l (fun j => sumR k (fun i => f i j)):=by
 induction k with
 | zero => exact (sumR_zero l).symm
 | succ k ih =>
   rw [sumR_succ,ih,← sumR_add]
   exact sumR_congr fun j _ => (sumR_succ k fun i => f i j).symm
theorem sumR_pt {k m : Nat} (x : Nat->Int) (hm : m < k) : sumR k (fun j => if m=j then x j else 0)=x m:=by
 induction k with
 | zero => omega
 | succ k ih =>
   rw [sumR_succ]
   by_cases h : m=k
   . subst h
     rw [if_pos rfl,show sumR m (fun j => if m=j then x j else 0)=sumR m (fun _ => 0) from sumR_congr fun j hj => if_neg (by omega),sumR_zero]; omega
   . rw [if_neg h,ih (by omega)]; omega
theorem sumR_mod {p : Int} {k : Nat} {f g : Nat->Int} (h : ∀ i,i < k->∃ t,f i=g i + p * t) : ∃ T,sumR k f=sumR k g + p * T:=by
 induction k with
 | zero => exact ⟨0,by simp [sumR]⟩
 | succ k ih =>
   obtain ⟨T,hT⟩:=ih fun i hi => h i (by omega)
   obtain ⟨t,ht⟩:=h k (by omega)
   exact ⟨T + t,by rw [sumR_succ,sumR_succ,hT,ht]; grind⟩
theorem sumR_mulr (k : Nat) (c : Int) (f : Nat->Int) : sumR k (fun i => f i * c)=sumR k f * c:=by
 rw [Int.mul_comm,← sumR_mul]; exact sumR_congr fun i _ => Int.mul_comm _ _
def evS (v : List Int) (x : Nat) : Int:=sumR v.length fun m => if m &&& x=m then v.getD m 0 else 0
def ev (p : Int) (v : List Int) (x : Nat) : Int:=evS v x % p
theorem or_sub (m i b : Nat) : (m ||| i) &&& b=m ||| i↔m &&& b=m∧i &&& b=i:=by
 constructor
 . intro h
   refine ⟨Nat.eq_of_testBit_eq fun t => ?_,Nat.eq_of_testBit_eq fun t => ?_⟩ <;>
   . have:=congrArg (fun n => Nat.testBit n t) h
     simp only [Nat.testBit_and,Nat.testBit_or] at this ⊢
     revert this
     cases m.testBit t<;>cases i.testBit t<;>cases b.testBit t<;>decide
 . rintro ⟨h1,h2⟩
   rw [Nat.and_or_distrib_right,h1,h2]
theorem bit_sub (k x : Nat) : 2 ^ k &&& x=2 ^ k↔x.testBit k=true:=by
 constructor
 . intro h
   have:=congrArg (fun n => Nat.testBit n k) h
   simp only [Nat.testBit_and,Nat.testBit_two_pow_self,Bool.true_and] at this
   exact this
 . intro h
   refine Nat.eq_of_testBit_eq fun t => ?_
   rw [Nat.testBit_and,Nat.testBit_two_pow]
   by_cases e : k=t
   . subst e; simp [h]
   . simp [e]
section
variable {p : Int} (hp : 1 < p)
include hp
theorem ev_bd (v : List Int) (x : Nat) : 0<=ev p v x∧ev p v x < p:=⟨Int.emod_nonneg _ (by omega),Int.emod_lt_of_pos _ (by omega)⟩
theorem ev_mul {u : Nat} {a b : List Int} (ha : a.length=2 ^ u) (hb : b.length=2 ^ u) (x : Nat) : ev p (mulD p (2 ^ u) a b) x=ev p a x * ev p b x % p:=by
 have hl : (mulD p (2 ^ u) a b).length=2 ^ u:=(Vec.mulD (by omega) _ _ _).1
 have h1 : ∃ T,evS (mulD p (2 ^ u) a b) x=sumR (2 ^ u) (fun j => sumR (2 ^ u) fun m => sumR (2 ^ u) fun i => if j &&& x=j∧m ||| i=j then a.getD m 0 * b.getD i 0 else 0) + p * T:=by
  unfold evS
  rw [hl]
  refine sumR_mod fun j hj => ?_
  by_cases hx : j &&& x=j
  . rw [if_pos hx,mul_get (by omega) j hj,ha]
    obtain ⟨t,ht⟩:=emod_wit p (sumR (2 ^ u) fun m => a.getD m 0 * shD b m j)
    refine ⟨t,?_⟩
    rw [ht]
    congr 1
    refine sumR_congr fun m _ => ?_
    rw [shD,hb,← sumR_mul]
    refine sumR_congr fun i _ => ?_
    by_cases h : m ||| i=j
    . rw [if_pos h,if_pos ⟨hx,h⟩]
    . rw [if_neg h,if_neg fun h' => h h'.2,Int.mul_zero]
  . refine ⟨0,?_⟩
    rw [if_neg hx,Int.mul_zero,Int.add_zero]
    refine ((sumR_congr fun m _ => ?_).trans (sumR_zero _)).symm
    refine (sumR_congr fun i _ => ?_).trans (sumR_zero _)
    rw [if_neg fun h => hx h.1]
 have h2 : sumR (2 ^ u) (fun j => sumR (2 ^ u) fun m => sumR (2 ^ u) fun i => if j &&& x=j∧m ||| i=j then a.getD m 0 * b.getD i 0 else 0)=evS a x * evS b x:=by
  rw [sumR_comm]
  unfold evS
  rw [ha,hb,← sumR_mulr]
  refine sumR_congr fun m hm => ?_
  rw [sumR_comm,← sumR_mul]
  refine sumR_congr fun i hi => ?_
  have hlt : m ||| i < 2 ^ u:=Nat.or_lt_two_pow hm hi
  have:=sumR_pt (k:=2 ^ u) (fun j => if j &&& x=j then a.getD m 0 * b.getD i 0 else 0) hlt
  refine (sumR_congr (g:=fun j => if m ||| i=j then (if j &&& x=j then a.getD m 0 * b.getD i 0 else 0) else 0) fun j _ => ?_).trans (this.trans ?_)
  . by_cases h : m ||| i=j
    . by_cases h2 : j &&& x=j
      . rw [if_pos ⟨h2,h⟩,if_pos h,if_pos h2]
      . rw [if_neg fun h3 => h2 h3.1,if_pos h,if_neg h2]
    . rw [if_neg fun h3 => h h3.2,if_neg h]
  . show (if (m ||| i) &&& x=m ||| i then _ else _)=_
    by_cases h1 : m &&& x=m
    . by_cases h2 : i &&& x=i
      . rw [if_pos ((or_sub m i x).2 ⟨h1,h2⟩),if_pos h1,if_pos h2]
      . rw [if_neg fun h => h2 ((or_sub m i x).1 h).2,if_pos h1,if_neg h2,Int.mul_zero]
    . rw [if_neg fun h => h1 ((or_sub m i x).1 h).1,if_neg h1,Int.zero_mul]
 obtain ⟨T,hT⟩:=h1
 unfold ev
 rw [hT,h2,Int.add_mul_emod_self_left,Int.mul_emod]
theorem ev_add {k : Int} {n : Nat} {a b : List Int} (ha : a.length=n) (hb : b.length=n) (x : Nat) : ev p (addD p k a b) x=(ev p a x + k * ev p b x) % p:=by
 have hl : (addD p k a b).length=n:=by rw [addD_len (by omega),ha]
 have h1 : ∃ T,evS (addD p k a b) x=evS a x + k * evS b x + p * T:=by
  unfold evS
  rw [hl,ha,hb,← sumR_mul,← sumR_add]
  refine sumR_mod fun m _ => ?_
  by_cases h : m &&& x=m
  . rw [if_pos h,if_pos h,if_pos h,addD_get (by omega)]; exact emod_wit p _
  . rw [if_neg h,if_neg h,if_neg h]; exact ⟨0,by simp⟩
 obtain ⟨T,hT⟩:=h1
 unfold ev
 rw [hT,Int.add_mul_emod_self_left]
 obtain ⟨t1,e1⟩:=emod_wit p (evS a x)
 obtain ⟨t2,e2⟩:=emod_wit p (evS b x)
 rw [e1,e2]
 exact emod_eq_of (-(t1 + k * t2)) (by grind)
theorem mono_get {u m : Nat} (hm : m < 2 ^ u) (i : Nat) : (monoD u m).getD i 0=if m=i then 1 else 0:=by
 unfold monoD
 rw [getD_set,getD_rep]
 by_cases h : m=i
 . rw [if_pos ⟨h,by simp; omega⟩,if_pos h]
 . rw [if_neg fun h' => h h'.1,if_neg h]
theorem ev_mono {u m : Nat} (hm : m < 2 ^ u) (x : Nat) : ev p (monoD u m) x=if m &&& x=m then 1 else 0:=by
 have h : evS (monoD u m) x=if m &&& x=m then 1 else 0:=by
  unfold evS
  rw [mono_len]
  refine (sumR_congr (g:=fun i => if m=i then (if i &&& x=i then 1 else 0) else 0) fun i _ => ?_).trans (sumR_pt (fun i => if i &&& x=i then 1 else 0) hm)
  rw [mono_get (p:=p) hp hm]
  by_cases e : m=i
  . rw [if_pos e,if_pos e]
  . rw [if_neg e,if_neg e]; split<;>rfl
 unfold ev
 rw [h]
 split
 . exact Int.emod_eq_of_lt (by decide) hp
 . rfl
theorem ev_one (u x : Nat) : ev p (monoD u 0) x=1:=by
 rw [ev_mono hp (Nat.two_pow_pos u),if_pos (by simp)]
theorem ev_lit {u : Nat} {l : Int} (hl : LitU u l) (x : Nat) : ev p (litD p u l) x=if x.testBit (l.natAbs - 1)=decide (0 < l) then 1 else 0:=by
 unfold litD
 by_cases h : 0 < l
 . have e : (l - 1).toNat=l.natAbs - 1:=by omega
   rw [if_pos h,e,ev_mono hp (two_pow_lt (by unfold LitU at hl; omega)),decide_eq_true h]
   by_cases hb : x.testBit (l.natAbs - 1)=true
   . rw [if_pos ((bit_sub _ _).2 hb),if_pos hb]
   . rw [if_neg fun h' => hb ((bit_sub _ _).1 h'),if_neg hb]
 . have e : (0 - l - 1).toNat=l.natAbs - 1:=by omega
   rw [if_neg h,e,ev_add hp (mono_len _ _) (mono_len _ _),ev_one hp,ev_mono hp (two_pow_lt (by unfold LitU at hl; omega)),decide_eq_false h]
   by_cases hb : x.testBit (l.natAbs - 1)=true
   . rw [if_pos ((bit_sub _ _).2 hb),if_neg (by rw [hb]; decide)]
     rw [show 1 + (p - 1) * 1=p by omega,Int.emod_self]
   . rw [if_neg fun h' => hb ((bit_sub _ _).1 h'),if_pos (by simpa using hb)]
     rw [Int.mul_zero,Int.add_zero]; exact Int.emod_eq_of_lt (by decide) hp
def litT (x : Nat) (l : Int) : Bool:=x.testBit (l.natAbs - 1) == decide (0 < l)
omit hp in
theorem litT_neg {x : Nat} {l : Int} (h : l ≠ 0) : litT x (0 - l)=!litT x l:=by
 unfold litT
 rw [show (0 - l).natAbs=l.natAbs by omega]
 by_cases h1 : 0 < l
 . rw [decide_eq_true h1,decide_eq_false (show ¬ 0 < 0 - l by omega)]; cases x.testBit (l.natAbs - 1)<;>rfl
 . rw [decide_eq_false h1,decide_eq_true (show 0 < 0 - l by omega)]; cases x.testBit (l.natAbs - 1)<;>rfl
theorem ev_clause {u : Nat} {c : List Int} (hc : ∀ l ∈ c,LitU u l) (x : Nat) : ev p (clauseD p u c) x=if c.any (litT x) then 0 else 1:=by
 have hg : ∀ (c : List Int) (v : List Int),v.length=2 ^ u->(∀ l ∈ c,LitU u l)->ev p (c.foldl (fun v l => mulD p (2 ^ u) v (litD p u (0 - l))) v) x=if c.any (litT x) then 0 else ev p v x:=by
  intro c
  induction c with
  | nil => intro v _ _; rfl
  | cons l c ih =>
    intro v hv hc
    have hl:=hc l (by simp)
    have hL : LitU u (0 - l):=by unfold LitU at hl ⊢; omega
    have hn : l ≠ 0:=by unfold LitU at hl; omega
    have hvl:=(Vec.lit (p:=p) hp u (0 - l)).1
    rw [List.foldl_cons,ih _ (Vec.mulD (by omega) _ _ _).1 fun l' h' => hc l' (by simp [h']),ev_mul hp hv hvl,ev_lit hp hL,List.any_cons]
    have e : (x.testBit ((0 - l).natAbs - 1)=decide (0 < 0 - l))↔litT x l=false:=by
     have:=litT_neg (x:=x) hn
     unfold litT at this ⊢
     cases h1 : (x.testBit (l.natAbs - 1) == decide (0 < l))
     . rw [h1] at this; simpa using this
     . rw [h1] at this; simpa using this
    by_cases ha : c.any (litT x)=true
    . rw [if_pos ha,if_pos (by rw [ha,Bool.or_true])]
    . rw [if_neg ha]
      cases h1 : litT x l with
      | true =>
        rw [if_neg (fun h => by rw [e.1 h] at h1; cases h1),Int.mul_zero,Int.zero_emod,if_pos (by simp)]
      | false =>
        rw [if_pos (e.2 h1),Int.mul_one,Bool.false_or,if_neg ha]
        have:=ev_bd hp v x
        rw [Int.emod_eq_of_lt this.1 this.2]
 unfold clauseD
 rw [hg c _ (mono_len u 0) hc,ev_one hp]
end
end Abs.Y
