/- What functions of this program compute, over plain data. No condition. -/
import Derived.Test.YtkccabajcdphkaaDoorCP1
import Derived.Test.YtkccabajcdphkaaDoorB1
import Derived.Test.YtkccabajcdphkaaDoorA3
import Derived.Test.YtkccabajcdphkaaDoorG4
import Derived.Test.YtkccabajcdphkaaDoorFacts
import Derived.Test.YtkccabajcdphkaaDoorAbsOwn
import Derived.Test.YtkccabajcdphkaaDoorV7
import Derived.Test.YtkccabajcdphkaaDoorV5
set_option linter.all false
open Nat renaming reduceEqDiff -> Qa, reduceLT -> Qb, reduceAdd -> Qc, reduceMul -> Qd, reduceSub -> Qe, reduceLeDiff -> Qf, reduceSubDiff -> Qg, reduceBEq -> Qh
open Bool renaming not_eq_true' -> Ba, not_eq_false' -> Bb, and_eq_true -> Bc, or_eq_true -> Bh, or_eq_false_iff -> Be
open Int renaming ofNat_lt -> Ia, ofNat_le -> Ib, not_lt -> Ic, not_le -> Ie
open Decidable renaming not_not -> Da
namespace Abs.Y
open Go Go.Proofs Abs
set_option maxRecDepth 100000

theorem stP_get {p : Int} {v : List Int} {m : Nat} {c : Int} {i : Nat} : (stP p v m c).getD i 0=if m=i∧i < v.length then (v.getD m 0 + c) % p else v.getD i 0:=by
 unfold stP; exact getD_set v m _ i
theorem stP_len (p : Int) (v : List Int) (m : Nat) (c : Int) : (stP p v m c).length=v.length:=by unfold stP; simp
theorem rowS_off {p : Int} {b : List (Int × Int)} {m : Nat} {c : Int} {i : Nat} : ∀ (v : List Int),(∀ t ∈ b,m ||| t.1.toNat ≠ i)->(rowS p b m c v).getD i 0=v.getD i 0:=by
 unfold rowS
 induction b with
 | nil => intro v _; rfl
 | cons t r ih =>
   intro v h
   rw [List.foldl_cons,ih _ fun t' h' => h t' (by simp [h']),stP_get,if_neg fun h' => h t (by simp) h'.1]
theorem mulS_off {p : Int} {b : List (Int × Int)} {i : Nat} : ∀ (a : List (Int × Int)) (v : List Int),(∀ s ∈ a,∀ t ∈ b,s.1.toNat ||| t.1.toNat ≠ i)->(a.foldl (fun v s => rowS p b s.1.toNat s.2 v) v).getD i 0=v.getD i 0
 | [],_,_ => rfl
 | s :: r,v,h => by rw [List.foldl_cons,mulS_off r _ fun s' h' => h s' (by simp [h']),rowS_off _ (h s (by simp))]
theorem mulS_from {p : Int} {n : Nat} {a b : List (Int × Int)} {i : Nat} (h : (mulS p n a b).getD i 0 ≠ 0) : ∃ s ∈ a,∃ t ∈ b,s.1.toNat ||| t.1.toNat=i:=by
 refine Classical.byContradiction fun hn => h ?_
 unfold mulS
 rw [mulS_off a _ fun s hs t ht e => hn ⟨s,hs,t,ht,e⟩,getD_zero]
theorem mem_sp {v : List Int} {t : Int × Int} : t ∈ spT v↔∃ m,m < v.length∧v.getD m 0 ≠ 0∧t=((m : Int),v.getD m 0):=by
 unfold spT
 rw [List.mem_map]
 constructor
 . rintro ⟨m,hm,rfl⟩
   rw [List.mem_filter,List.mem_range,decide_eq_true_eq] at hm
   exact ⟨m,hm.1,hm.2,rfl⟩
 . rintro ⟨m,h1,h2,rfl⟩
   exact ⟨m,by rw [List.mem_filter,List.mem_range,decide_eq_true_eq]; exact ⟨h1,h2⟩,rfl⟩
structure Tops (n : Nat) (v : List Int) (M : Nat) : Prop where
 len : v.length=n
 lt : M < n
 sub : ∀ m,v.getD m 0 ≠ 0->m &&& M=m
 top : v.getD M 0 ≠ 0
def maskV (c : List Int) : Nat:=c.foldl (fun M l => M ||| 2 ^ (l.natAbs - 1)) 0
end Abs.Y

namespace Abs.Y
open Go Go.Proofs Abs
set_option maxRecDepth 100000

section
variable {p : Int} (hp : 1 < p)
include hp
theorem mul_comm' {u : Nat} {a b : List Int} (ha : Vec p (2 ^ u) a) (hb : Vec p (2 ^ u) b) : mulD p (2 ^ u) a b=mulD p (2 ^ u) b a:=by
 refine ev_inj hp (Vec.mulD (by omega) _ _ _) (Vec.mulD (by omega) _ _ _) fun x _ => ?_
 rw [ev_mul hp ha.1 hb.1,ev_mul hp hb.1 ha.1,Int.mul_comm]
theorem mul_add' {u : Nat} {a b : List Int} (ha : Vec p (2 ^ u) a) (hb : Vec p (2 ^ u) b) :
 mulD p (2 ^ u) a (addD p 1 a b)=addD p 1 (mulD p (2 ^ u) a a) (mulD p (2 ^ u) a b):=by
 have vm : ∀ x y : List Int,Vec p (2 ^ u) (mulD p (2 ^ u) x y):=fun x y => Vec.mulD (by omega) _ _ _
 have va : Vec p (2 ^ u) (addD p 1 a b):=Vec.addD (by omega) ha.1 hb.1
 refine ev_inj hp (vm _ _) (Vec.addD (by omega) (vm _ _).1 (vm _ _).1) fun x _ => ?_
 rw [ev_mul hp ha.1 va.1,ev_add hp ha.1 hb.1,ev_add hp (vm _ _).1 (vm _ _).1,ev_mul hp ha.1 ha.1,ev_mul hp ha.1 hb.1]
 generalize ev p a x=s
 generalize ev p b x=t
 rw [Int.one_mul,Int.one_mul,← Int.add_emod,Int.mul_emod,Int.emod_emod,← Int.mul_emod,Int.mul_add]
end
theorem degT_mem {a : List (Int × Int)} : ∀ t ∈ a,(cnt t.1.toNat : Int)<=degT a:=by
 have : ∀ (a : List (Int × Int)) (d : Int),∀ t ∈ a,(cnt t.1.toNat : Int)<=a.foldl (fun d t => max d (cnt t.1.toNat : Int)) d:=by
  intro a
  induction a with
  | nil => intro d t h; cases h
  | cons s r ih =>
    intro d t h
    rw [List.foldl_cons]
    rcases List.mem_cons.1 h with rfl | h
    . have:=(fold_max r (max d (cnt t.1.toNat : Int))).1; omega
    . exact ih _ t h
 exact this a (-1)
theorem degT_le {a : List (Int × Int)} {K : Int} (hK : -1<=K) (h : ∀ t ∈ a,(cnt t.1.toNat : Int)<=K) : degT a<=K:=by
 have : ∀ (a : List (Int × Int)) (d : Int),d<=K->(∀ t ∈ a,(cnt t.1.toNat : Int)<=K)->a.foldl (fun d t => max d (cnt t.1.toNat : Int)) d<=K:=by
  intro a
  induction a with
  | nil => intro d h _; exact h
  | cons s r ih =>
    intro d h h'
    rw [List.foldl_cons]
    exact ih _ (by have:=h' s (by simp); omega) fun t ht => h' t (by simp [ht])
 exact this a (-1) hK h
theorem cnt_or2 : ∀ m,m < 64->∀ n,n < 64->cnt (m ||| n)<=cnt m + cnt n:=by decide +kernel
theorem degD_neg {v : List Int} : degD v < 0↔spT v=[]:=by rw [← deg_eq,degT_neg]
theorem deg_mul {p : Int} {u : Nat} (hp : 1 < p) (hu : u<=6) {a b : List Int} (ha : Vec p (2 ^ u) a) (hb : Vec p (2 ^ u) b) :
 (0<=degD a->0<=degD b->degD (mulD p (2 ^ u) a b)<=degD a + degD b)∧((degD a < 0∨degD b < 0)->degD (mulD p (2 ^ u) a b) < 0):=by
 have hq:=pow_le6 hu
 have from_ : ∀ t ∈ spT (mulD p (2 ^ u) a b),∃ m n,m < 64∧n < 64∧t.1.toNat=m ||| n∧(cnt m : Int)<=degD a∧(cnt n : Int)<=degD b:=by
  intro t ht
  obtain ⟨i,hi,hne,rfl⟩:=mem_sp.1 ht
  rw [← mul_eq (by omega)] at hne
  obtain ⟨s,hs,t,ht,e⟩:=mulS_from hne
  have h1:=degT_mem s hs
  have h2:=degT_mem t ht
  rw [deg_eq] at h1 h2
  obtain ⟨m,hm,_,rfl⟩:=mem_sp.1 hs
  obtain ⟨n,hn,_,rfl⟩:=mem_sp.1 ht
  rw [ha.1] at hm
  rw [hb.1] at hn
  simp only [Int.toNat_natCast] at e h1 h2 ⊢
  exact ⟨m,n,by omega,by omega,e.symm,h1,h2⟩
 constructor
 . intro h1 h2
   rw [← deg_eq]
   refine degT_le (by omega) fun t ht => ?_
   obtain ⟨m,n,hm,hn,e,h3,h4⟩:=from_ t ht
   rw [e]
   have:=cnt_or2 m hm n hn
   omega
 . intro h
   rw [degD_neg]
   cases hs : spT (mulD p (2 ^ u) a b) with
   | nil => rfl
   | cons t r =>
     obtain ⟨m,n,hm,hn,e,h3,h4⟩:=from_ t (by rw [hs]; simp)
     omega
theorem deg_bd (v : List Int) : -1<=degD v∧degD v<=6:=by rw [← deg_eq]; exact degT_bd _

def sumT (n : Nat) (a : List (Int × Int)) : List Int:=a.foldl (fun v t => v.set t.1.toNat (v.getD t.1.toNat 0 + t.2)) (List.replicate n 0)
def sumP (p : Int) (n : Nat) (a : List (Int × Int)) : List Int:=a.foldl (fun v t => stP p v t.1.toNat t.2) (List.replicate n 0)
theorem sumT_len (n : Nat) (a : List (Int × Int)) : (sumT n a).length=n:=by
 have : ∀ (a : List (Int × Int)) (v : List Int),(a.foldl (fun v t => v.set t.1.toNat (v.getD t.1.toNat 0 + t.2)) v).length=v.length:=by
  intro a
  induction a with
  | nil => intro v; rfl
  | cons t r ih => intro v; rw [List.foldl_cons,ih,List.length_set]
 rw [sumT,this,List.length_replicate]
theorem Vec.sumP {p : Int} (hp : 0 < p) (n : Nat) (a : List (Int × Int)) : Vec p n (sumP p n a):=fold_vec (fun v t h => h.st hp _ _) a (Vec.zero hp n)
theorem map_getD (p : Int) (v : List Int) (i : Nat) : (v.map fun x => x % p).getD i 0=v.getD i 0 % p:=by
 rw [List.getD_eq_getElem?_getD,List.getD_eq_getElem?_getD,List.getElem?_map]
 cases v[i]? <;> simp
theorem sum_mod (p : Int) (n : Nat) (a : List (Int × Int)) : (sumT n a).map (fun x => x % p)=sumP p n a:=by
 have : ∀ (a : List (Int × Int)) (v : List Int),(a.foldl (fun v t => v.set t.1.toNat (v.getD t.1.toNat 0 + t.2)) v).map (fun x => x % p)=a.foldl (fun v t => stP p v t.1.toNat t.2) (v.map fun x => x % p):=by
  intro a
  induction a with
  | nil => intro v; rfl
  | cons t r ih =>
    intro v
    rw [List.foldl_cons,List.foldl_cons,ih,List.map_set,stP,map_getD,Int.emod_add_emod]
 rw [sumT,this,sumP]
 congr 1
 simp
theorem sumT_bd {n : Nat} {c K : Int} : ∀ (a : List (Int × Int)) (v : List Int),(∀ t ∈ a,0<=t.2∧t.2<=c)->0<=c->(∀ i,0<=v.getD i 0∧v.getD i 0<=K)->∀ i,0<=(a.foldl (fun v t => v.set t.1.toNat (v.getD t.1.toNat 0 + t.2)) v).getD i 0∧(a.foldl (fun v t => v.set t.1.toNat (v.getD t.1.toNat 0 + t.2)) v).getD i 0<=K + c * a.length
 | [],v,_,_,hv,i => by simpa using hv i
 | t :: r, v, ha, hc, hv, i => by
   have h1:=ha t (by simp)
   have:=sumT_bd (n:=n) (c:=c) (K:=K + c) r (v.set t.1.toNat (v.getD t.1.toNat 0 + t.2)) (fun s hs => ha s (by simp [hs])) hc (fun j => by
    have h2:=hv j
    have h3:=hv t.1.toNat
    rw [getD_set]
    split<;>omega) i
   rw [List.foldl_cons]
   rw [List.length_cons,show c * ((r.length + 1 : Nat) : Int)=c + c * r.length by rw [Int.natCast_add,Int.mul_add]; omega]
   omega
theorem dn_at {p : Int} {n : Nat} {a : List (Int × Int)} (h : isT p n a=true) {i : Nat} (hi : i < a.length) : (dnT n a).getD (a.getD i (0,0)).1.toNat 0=(a.getD i (0,0)).2:=by
 have hm : a.getD i (0,0) ∈ spT (dnT n a):=by rw [sp_dn h]; exact getD_mem hi
 obtain ⟨m,_,_,e⟩:=mem_sp.1 hm
 rw [e]; simp
end Abs.Y

namespace Abs
open Go Go.RowKit

def clB (b e : Nat) : Nat:=b &&& (2 ^ 64 - (2 ^ e + 1))
theorem bitV_andC {a e : Nat} (ha : a < 2 ^ 63) (he : e<=62) : bitV .andNot .i64 a ((2 ^ e : Nat) : Int)=((clB a e : Nat) : Int):=by
 have hp : 2 ^ e<=2 ^ 62:=Nat.pow_le_pow_right (by decide) he
 have h : clB a e < 2 ^ 63:=Nat.lt_of_le_of_lt Nat.and_le_left ha
 show IntKind.wrap .i64 (((BitVec.ofInt 64 (a : Int)) &&& ~~~(BitVec.ofInt 64 ((2 ^ e : Nat) : Int))).toNat : Nat)=_
 rw [ofInt_nat,ofInt_nat,BitVec.toNat_and,BitVec.toNat_not,BitVec.toNat_ofNat,BitVec.toNat_ofNat,Nat.mod_eq_of_lt (a:=a) (by omega),Nat.mod_eq_of_lt (a:=2 ^ e) (by omega),show 2 ^ 64 - 1 - 2 ^ e=2 ^ 64 - (2 ^ e + 1) by omega]
 change IntKind.wrap .i64 ((clB a e : Nat) : Int)=_
 rw [wrap_of (by omega)]
theorem clB_bit (a : Nat) {e i : Nat} (he : e<=62) (hi : i < 64) : (clB a e).testBit i=(a.testBit i && !(decide (e=i))):=by
 have hp : 2 ^ e<=2 ^ 62:=Nat.pow_le_pow_right (by decide) he
 rw [clB,Nat.testBit_and,Nat.testBit_two_pow_sub_succ (by omega),Nat.testBit_two_pow,decide_eq_true hi,Bool.true_and]
theorem clB_le (a e : Nat) : clB a e<=a:=Nat.and_le_left
end Abs

namespace Abs.Y
open Go Go.Proofs Abs
set_option maxRecDepth 100000

theorem sumP_sp {p : Int} {n : Nat} (hp : 0 < p) {w : List Int} (hw : Vec p n w) : sumP p n (spT w)=w:=by
 have h1:=fold_sp (Vec p n) (fun v m c => stP p v m c) w (fun v m c h => h.st hp m c) (fun v m h => st_zero h m) (List.range w.length) (List.replicate n 0) (Vec.zero hp n)
 have h2 : sumP p n (spT w)=(List.range w.length).foldl (fun a m => stP p a m (w.getD m 0)) (List.replicate n 0):=h1
 rw [h2,hw.1]
 have key : ∀ k,k<=n->((List.range k).foldl (fun a m => stP p a m (w.getD m 0)) (List.replicate n 0)).length=n ∧
  ∀ i,((List.range k).foldl (fun a m => stP p a m (w.getD m 0)) (List.replicate n 0)).getD i 0=if i < k then w.getD i 0 else 0:=by
  intro k
  induction k with
  | zero => intro _; exact ⟨by simp,fun i => by rw [if_neg (by omega)]; exact getD_zero n i⟩
  | succ k ih =>
    intro hk
    obtain ⟨l1,l2⟩:=ih (by omega)
    rw [List.range_succ,List.foldl_append,List.foldl_cons,List.foldl_nil]
    refine ⟨by rw [stP_len,l1],fun i => ?_⟩
    rw [stP_get,l1,l2,l2,if_neg (Nat.lt_irrefl k),Int.zero_add]
    have hb:=hw.2 k
    by_cases e : k=i
    . subst e
      rw [if_pos ⟨rfl,by omega⟩,if_pos (by omega),Int.emod_eq_of_lt hb.1 hb.2]
    . rw [if_neg (by omega)]
      split<;>split<;>first | rfl | omega
 obtain ⟨l1,l2⟩:=key n (Nat.le_refl _)
 refine vec_ext (p:=p) l1 hw.1 fun i => ?_
 rw [l2]
 split
 . rfl
 . rw [List.getD_eq_getElem?_getD,List.getElem?_eq_none (by have:=hw.1; omega)]; rfl
theorem sumP_from {p : Int} {n : Nat} {i : Nat} : ∀ (a : List (Int × Int)) (v : List Int),(∀ t ∈ a,t.1.toNat ≠ i)->(a.foldl (fun v t => stP p v t.1.toNat t.2) v).getD i 0=v.getD i 0
 | [],_,_ => rfl
 | t :: r, v, h => by
   rw [List.foldl_cons,sumP_from (n:=n) r _ fun s hs => h s (by simp [hs]),stP_get,if_neg]
   exact fun e => h t (by simp) e.1
def setL (k : Nat) (pos : Bool) (a : List (Int × Int)) : List (Int × Int):=(a.filter fun t => pos || !(t.1.toNat.testBit k)).map fun t => (((clB t.1.toNat k : Nat) : Int),t.2)
def setV (p : Int) (n k : Nat) (pos : Bool) (a : List (Int × Int)) : List Int:=sumP p n (setL k pos a)
theorem clB_id {m k : Nat} (hk : k<=62) (hm : m < 2 ^ 63) (h : m.testBit k=false) : clB m k=m:=by
 apply Nat.eq_of_testBit_eq
 intro i
 by_cases hi : i < 64
 . rw [clB_bit m hk hi]
   by_cases e : k=i
   . subst e; rw [h]; rfl
   . rw [decide_eq_false e]; simp
 . have h1 : m < 2 ^ i:=Nat.lt_of_lt_of_le hm (Nat.pow_le_pow_right (by decide) (by omega))
   rw [Nat.testBit_lt_two_pow h1,Nat.testBit_lt_two_pow (Nat.lt_of_le_of_lt (clB_le m k) h1)]
theorem clB_no {m k : Nat} (hk : k<=62) : (clB m k).testBit k=false:=by rw [clB_bit m hk (by omega)]; simp
theorem set_again {p : Int} (hp : 0 < p) {n k : Nat} (hk : k<=5) (hn : n<=64) (pos pos' : Bool) (a : List (Int × Int)) : setV p n k pos' (spT (setV p n k pos a))=setV p n k pos a:=by
 have hv : Vec p n (setV p n k pos a):=Vec.sumP hp n _
 have h : ∀ t ∈ spT (setV p n k pos a),t.1.toNat.testBit k=false∧t=((t.1.toNat : Int),t.2)∧t.1.toNat < 64:=by
  intro t ht
  obtain ⟨m,hm,hne,rfl⟩:=mem_sp.1 ht
  rw [hv.1] at hm
  simp only [Int.toNat_natCast]
  refine ⟨?_,trivial,by omega⟩
  refine Classical.byContradiction fun hb => hne ?_
  have : ∀ s ∈ setL k pos a,s.1.toNat ≠ m:=by
   intro s hs e
   obtain ⟨t,_,rfl⟩:=List.mem_map.1 hs
   simp only [Int.toNat_natCast] at e
   have:=clB_no (m:=t.1.toNat) (k:=k) (by omega)
   rw [e] at this
   exact hb this
  show (sumP p n (setL k pos a)).getD m 0=0
  rw [sumP,sumP_from (n:=n) _ _ this,getD_zero]
 have e : setL k pos' (spT (setV p n k pos a))=spT (setV p n k pos a):=by
  rw [setL,List.filter_eq_self.2 fun t ht => by rw [(h t ht).1]; simp]
  refine (List.map_congr_left fun t ht => ?_).trans (List.map_id _)
  obtain ⟨h1,h2,h3⟩:=h t ht
  rw [clB_id (by omega) (Nat.lt_of_lt_of_le h3 (by decide)) h1]
  exact h2.symm
 rw [setV,e]
 exact sumP_sp hp hv
theorem setL_len (k : Nat) (pos : Bool) (a : List (Int × Int)) : (setL k pos a).length<=a.length:=by
 rw [setL,List.length_map]; exact List.length_filter_le _ _
end Abs.Y

namespace Abs.Y
open Go Go.Proofs Abs
set_option maxRecDepth 100000

end Abs.Y

namespace Abs.Y
open Go Go.Proofs Abs
set_option maxRecDepth 100000

def Barr (p : Int) (u : Nat) (d : Int) (cs L : List (List Int)) (R : List (List Int)) : Prop :=
 (∀ a ∈ L,degD a<=d)∧(∀ a ∈ clausesD p u d cs,Sp p (2 ^ u) R a)∧Closed p u d R∧¬ Sp p (2 ^ u) R (monoD u 0)
end Abs.Y

namespace Abs.Y
open Go Go.Proofs Abs
set_option maxRecDepth 100000

section
variable {p : Int} {u : Nat} (hp : 1 < p∧p<=5) (hu : u<=6)
include hp hu
end
end Abs.Y

namespace Abs.Y
open Go Go.Proofs Abs
set_option maxRecDepth 100000

def sumC (p : Int) (u : Nat) (cs : List (List Int)) (list : List (List (Int × Int))) (k : Nat) : List Int :=
 (List.range k).foldl (fun v i => addD p 1 v (mulD p (2 ^ u) (dnT (2 ^ u) (list.getD i [])) (clauseD p u (cs.getD i [])))) (List.replicate (2 ^ u) 0)
section
variable {p : Int} {u : Nat} (hp : 1 < p∧p<=5) (hu : u<=6)
include hp hu
end
end Abs.Y

namespace Abs.Y
open Go Go.Proofs Abs
set_option maxRecDepth 100000

@[reducible] def D.sp (v : List Int) : D:=D.tms (spT v)
structure RowsB (p : Int) (u : Nat) (R : List (List Int)) : Prop where
 vec : AllV p (2 ^ u) R
 nz : ∀ r ∈ R,¬ ldI r < 0
 bd : R.length<=64
def restK (p : Int) (R : List (List Int)) (a : List Int) (i : Nat) : List Int:=redD p ldG (R.drop (R.length - i)).reverse a
section
variable {p : Int} {u : Nat} (hp : 1 < p∧p<=5) (hu : u<=6)
include hp hu
end
section
variable {p : Int} {u : Nat} (hp : p=2∨p=3∨p=5) (hu : u<=6)
include hp hu
end
end Abs.Y

namespace Abs.Y
open Go Go.Proofs Abs
set_option maxRecDepth 100000

def goodL (p v : Int) (cs : List (List Int)) (list : List (List (Int × Int))) : Bool:=((okCnf v cs && primeB p v) && decide (list.length=cs.length)) && list.all (isT p (2 ^ v.toNat))
end Abs.Y

namespace Abs.Y
open Go Go.Proofs Abs
set_option maxRecDepth 100000
section
variable {p : Int} {u : Nat} (hp : 1 < p∧p<=5) (hu : u<=6)
include hp hu
end
end Abs.Y

namespace Abs.Y
open Go Go.Proofs Abs
set_option maxRecDepth 100000
section
variable {p : Int} {u : Nat} (hp : 1 < p∧p<=5) (hu : u<=6)
include hp hu
end
end Abs.Y

namespace Abs.Y
open Go Go.Proofs Abs
set_option maxRecDepth 100000

section
variable {p : Int} {u : Nat} (hp : 1 < p∧p<=5) (hu : u<=6)
include hp hu
end
end Abs.Y

namespace Abs.Y
open Go Go.Proofs Abs
set_option maxRecDepth 100000

section
variable {p : Int} {u : Nat} (hp : 1 < p∧p<=5) (hu : u<=6)
include hp hu
end
def prodsK (p : Int) (u : Nat) (r : List Int) (j : Nat) : List (List Int):=(List.range j).map (fun v => mulX p u r ((v : Nat) + 1 : Int))
section
variable {p : Int} {u : Nat} (hp : p=2∨p=3∨p=5) (hu : u<=6)
def basR (cs : List (List Int)) (d : Int) : List (List Int):=(keepR p u hp hu).fin cs d []
end
end Abs.Y

namespace Abs.Y
open Go Go.Proofs Abs
set_option maxRecDepth 100000

def degB (d : Int) : Bool:=decide (0<=d) && decide (d<=6)
def leastB (ask : Bool) (i : Int) : Bool:=ask && decide (0<=i)
def leastV (ask : Bool) (i : Int) : Int:=if leastB ask i then i else 0
def dimsL (D : Nat->Nat) (n : Nat) : List Int:=(List.range n).map fun d => ((D d : Nat) : Int)
end Abs.Y

namespace Abs
open Go Go.Proofs
theorem Ctr.eat3 {P : Program} {f : FuncId} {x y r : D} {es : List D} {e : TypeId} {k : Nat} (h : Ctr P f [x,y,.slice es] true (.d r) []) : CtrM P f [.d x,.d y,.sl 0] [(0,.arr e k es)] [] true (.d r) []:=by
 refine ⟨h.1,fun S β φ w vs hl hr ho hd hG => ?_⟩
 have hb : ∀ g,φ 0 g->blocksOf φ [(0,AO.arr e k es)] g:=fun g hg => ⟨0,_,rfl,hg⟩
 refine (h.2 (fun g => S g∨φ 0 g) w vs (by simpa using hl) (fun i hi => ?_) (hG.sub (Nat.le_refl _) (fun _ _ h => h.elim) (fun _ _ _ h => .inl h) fun _ _ _ => rfl)).mono fun en w' ⟨v,he,hf,β',φ',h1,h2,h3,h4⟩ => ⟨v,he,⟨hf.os,hf.tape,hf.output,hf.le,hf.size,?_,?_⟩,β',φ',by simp,?_,by simp [lk],by simp [lk],by simp [lk]⟩
 . match i,hi with
   | 0, _ =>
     have:=hr 0 (by simp)
     simp only [List.getD_cons_zero] at this ⊢
     cases this with
     | d this => exact this.weaken fun g hg => .inl hg.1
   | 1, _ =>
     have:=hr 1 (by simp)
     simp only [List.getD_cons_zero,List.getD_cons_succ] at this ⊢
     cases this with
     | d this => exact this.weaken fun g hg => .inl hg.1
   | 2, _ =>
     have:=hr 2 (by simp)
     simp only [List.getD_cons_zero,List.getD_cons_succ] at this ⊢
     generalize vs.getD 2 Go.undef=y at *
     cases this
     exact rd_of_arr (ho 0 (.arr e k es) (by simp [lk])) (fun g hg _ => .inl hg.1) fun g hg => .inr hg
 . exact fun g hg _ => hf.block g hg fun h => h
 . exact hf.drawn
 . cases h1 with
   | d h1 =>
     refine .d (h1.weaken fun g hg => ⟨?_,by simp [lk]⟩)
     rcases hg.1 with h5 | ⟨_,h5 | h5⟩
     . exact .inl h5
     . exact .inr (.inr ⟨rfl,h5⟩)
     . exact .inr (.inl (hb g h5))
end Abs
namespace Abs.Y
open Go Go.Proofs Abs
set_option maxRecDepth 100000

def cpB (p v : Int) (c : List Int) : Bool:=primeB p v && okClause v c
section
variable {p : Int} {u : Nat} (hp : 1 < p∧p<=5) (hu : u<=6) (hpr : primeB p u=true)
include hp hu hpr
theorem polyDegree_ok {a : List (Int × Int)} (hl : a.length<=4294967296) (hT : isT p (2 ^ u) a=true) : Ctr Tryd.prog 15 [.int .i64 p,.int .i64 (u : Nat),D.tms a] false (.tup [.d (.int .i64 (degD (dnT (2 ^ u) a))),.d (.bool true)]) []:=by
 have c1:=Ctr.tupN (ys:=[_,_,_]) (polys_ok hp hu (list:=[a]) hpr (by simp) (fun j => by cases j with | zero => exact hl | succ j => simp))
 have h6:=pow_le6 hu
 have c2:=degree_ok (v:=dnT (2 ^ u) a) (by rw [dnT_len]; omega)
 simp only [List.all_cons,List.all_nil,hT,Bool.and_self,if_true,List.map_cons,List.map_nil,D.ints] at c1 c2
 have c1:=Ctr.eat3 (e:=24) (k:=1) c1
 generalize degD (dnT (2 ^ u) a)=d at *
 generalize dnT (2 ^ u) a=v at *
 have hel : el [D.slice (v.map (.int .i64))] 0=.slice (v.map (.int .i64)):=rfl
 refine Ctr.of (n:=26) (rs:=[.tmp 6,.tmp 7]) Tryd.func15 rfl rfl Tryd.ntmps15 rfl rfl (by kernel_rfl) Tryd.checked.mixed ?_
 simp (disch:=first | omega | decide +kernel) only [D.ints,hel,go_sem,Qa,Qb,Qc,Qd,Qe,↓reduceIte,reduceCtorEq,Qf,Qg,Qh]
 (repeat' (first | ((first | (refine gsel_split (fun q' => ?_) (fun q' => ?_)<;>(have h':=q')<;>(try simp only [za1,za2,Ba,Bb,za3,ne_eq,za4,za5,za6,Ia,Ib,Ic,Ie,Da,Bc,Bh,Be,za7,za8] at h')<;>try (exfalso; omega)) | (have q':=trivial; first | refine callX_mut [15] [15] [15] (c1) ⟨.inl rfl,.inl rfl,.inl rfl,trivial⟩ ⟨rfl,trivial⟩ rfl (by simp [dstB]) ?_ | refine callX_new (c2) rfl (by decide) ?_ | refine callY_new (c2) rfl ?_ | refine hE _ _ ret_ne ?_ | refine hE _ _ exit_ne ?_))<;>(try simp (disch:=first | omega | decide +kernel) only [q',D.ints,hel,go_sem,Qa,Qb,Qc,Qd,Qe,↓reduceIte,reduceCtorEq,Qf,Qg,Qh])<;>clear q') | refine hN _ ?_ ?_ Wk.kk | with_reducible refine And.intro ?_ ?_ | with_reducible omega | exact ok_ints | exact cells_ints | exact no_mem | with_reducible exact plain_ints | (refine le_maxLen ?_; omega) | (refine za9 ⟨?_,?_⟩) | (simp only [go_sem,Qc,Qb,zb1,zb2,forall_eq]; done)))
 all_goals trace_state
end
end Abs.Y

namespace Abs
open Go Go.Proofs
theorem retM_ds {P : Program} {t : Nat} {st : St} {x : D} {u : Nat->Value} {ob : AO} (h : lk t st.s=some (.d x)) (ho : lk 0 st.o=some ob) (hk : lk 1000000000 st.s=some (.hdr 0 (u 0))) (hr : ob.ren (fun j => j)=ob) :
 retM P [.tmp t] u [0] true (.d x) [(0,ob)] .ret st:=by
 simp only [retM,resV,h]
 exact ⟨trivial,⟨fun j => j,rfl,by simpa [hr] using ho,by simp,⟨rfl,hk,trivial⟩⟩,.inl trivial⟩
theorem CtrR.mono {P f avs oi keep sh} {R R' : AV->List (Nat × AO)->Prop} (h : CtrR P f avs oi keep sh R) (hR : ∀ r o,R r o->R' r o) : CtrR P f avs oi keep sh R' :=
 ⟨h.1,fun S β φ w vs h1 h2 h3 h4 hG => (h.2 S β φ w vs h1 h2 h3 h4 hG).mono fun _ _ ⟨v,r,o,e,hr,h5,h6⟩ => ⟨v,r,o,e,hR r o hr,h5,h6⟩⟩
end Abs
namespace Abs.Y
open Go Go.Proofs Abs
set_option maxRecDepth 100000

@[reducible] def D.bytes (c : List Int) : D:=.slice (c.map (.int .u8))
@[reducible] def curB (code : List Int) (at_ : Nat) (seed : Int) : AO:=.box 95 [.d (D.bytes code),.d (.int .i64 (at_ : Nat)),.d (.int .u64 seed)]
@[reducible] def curO (code : List Int) (at_ : Nat) (seed : Int) : List (Nat × AO):=[(0,curB code at_ seed)]
structure CodeOK (code : List Int) : Prop where
 len : code.length<=1048576
 byte : ∀ i,0<=code.getD i 0∧code.getD i 0 < 256
structure CurOK (at_ : Nat) (seed : Int) : Prop where
 at_ : at_<=1099511627776
 seed : 0<=seed∧seed < 18446744073709551616
theorem el_u8 {xs : List Int} {i : Nat} (h : i < xs.length) : el (xs.map (.int .u8)) i=.int .u8 (xs.getD i 0):=el_map (f:=D.int .u8) 0 h
def seedN (seed b : Int) : Int:=IntKind.u64.wrap (IntKind.u64.wrap (IntKind.u64.wrap (seed * 6364136223846793005) + IntKind.u64.wrap b) + 337411)
theorem wrap_u64 (n : Int) : 0<=IntKind.u64.wrap n∧IntKind.u64.wrap n < 18446744073709551616:=by
 simp only [IntKind.wrap,IntKind.signed,IntKind.bits]
 simp; omega
theorem seedN_bd (s b : Int) : 0<=seedN s b∧seedN s b < 18446744073709551616:=wrap_u64 _
theorem bitV_and_u64 (x : Int) : 0<=bitV .and .u64 x 255∧bitV .and .u64 x 255<=255:=by
 have h : (BitVec.ofInt 64 x &&& BitVec.ofInt 64 255).toNat<=255:=by
  rw [BitVec.toNat_and]; exact Nat.and_le_right
 have e : bitV .and .u64 x 255=IntKind.wrap .u64 ((BitVec.ofInt 64 x &&& BitVec.ofInt 64 255).toNat : Nat):=rfl
 generalize (BitVec.ofInt 64 x &&& BitVec.ofInt 64 255).toNat=n at *
 rw [e]
 simp only [IntKind.wrap,IntKind.signed,IntKind.bits]
 simp; omega
def drawX (s : Int) : Int:=IntKind.i64.wrap (bitV .and .u64 (s.fdiv (2 ^ min (Int.toNat 40) 64)) 255)
theorem drawX_bd (s : Int) : 0<=drawX s∧drawX s<=255:=by
 unfold drawX
 have h:=bitV_and_u64 (s.fdiv (2 ^ min (Int.toNat 40) 64))
 rw [wrap_of (by omega)]
 omega
theorem next_ok {code : List Int} (hc : CodeOK code) {at_ : Nat} {seed : Int} (h : CurOK at_ seed) : ∃ x seed',0<=x∧x<=255∧0<=seed'∧seed' < 18446744073709551616 ∧
 CtrM Tryd.prog 134 [.p 0 0] (curO code at_ seed) [0] true (.d (.int .i64 x)) (curO code (at_ + 1) seed'):=by
 have hl:=hc.len
 have hb:=hc.byte at_
 obtain ⟨ha,hs⟩:=h
 by_cases hlt : at_ < code.length
 . have hei:=el_u8 hlt
   have he2 : (at_ : Int) + 1=((at_ + 1 : Nat) : Int):=by omega
   generalize code.getD at_ 0=b at *
   refine ⟨b,seedN seed b,hb.1,by omega,(seedN_bd _ _).1,(seedN_bd _ _).2,?_⟩
   refine CtrM.of (n:=62) (rs:=[.tmp 2]) Tryd.func134 rfl rfl Tryd.ntmps134 rfl rfl (by kernel_rfl) Tryd.checked.mixed ?_; intro u
   simp (disch:=first | omega | decide +kernel) only [curO,curB,D.bytes,hei,setL,he2,go_sem,Qa,Qb,Qc,Qd,Qe,↓reduceIte,reduceCtorEq,Qf,Qg,Qh]
   (repeat' (first | ((first | (refine gsel_split (fun q' => ?_) (fun q' => ?_)<;>(have h':=q')<;>(try simp only [za1,za2,Ba,Bb,za3,ne_eq,za4,za5,za6,Ia,Ib,Ic,Ie,Da,Bc,Bh,Be,za7,za8] at h')<;>try (exfalso; omega)) | (have q':=trivial; first | refine hE _ _ ret_ne ?_ | refine hE _ _ exit_ne ?_))<;>(try simp (disch:=first | omega | decide +kernel) only [q',D.bytes,hei,setL,he2,Int.toNat_natCast,go_sem,Qa,Qb,Qc,Qd,Qe,↓reduceIte,reduceCtorEq,Qf,Qg,Qh])<;>clear q') | refine hN _ ?_ ?_ Wk.kk | with_reducible refine And.intro ?_ ?_ | with_reducible omega | exact ok_ints | exact cells_ints | exact no_mem | with_reducible exact plain_ints | (refine le_maxLen ?_; omega) | (refine za9 ⟨?_,?_⟩) | (simp only [go_sem,Qc,Qb,zb1,zb2,forall_eq]; done)))
   all_goals (first | omega | exact retM_ds rfl rfl rfl rfl)
 . have he2 : (at_ : Int) + 1=((at_ + 1 : Nat) : Int):=by omega
   refine ⟨drawX (seedN seed 0),seedN seed 0,(drawX_bd _).1,(drawX_bd _).2,(seedN_bd _ _).1,(seedN_bd _ _).2,?_⟩
   refine CtrM.of (n:=62) (rs:=[.tmp 2]) Tryd.func134 rfl rfl Tryd.ntmps134 rfl rfl (by kernel_rfl) Tryd.checked.mixed ?_; intro u
   simp (disch:=first | omega | decide +kernel) only [curO,curB,D.bytes,setL,he2,go_sem,Qa,Qb,Qc,Qd,Qe,↓reduceIte,reduceCtorEq,Qf,Qg,Qh]
   (repeat' (first | ((first | (refine gsel_split (fun q' => ?_) (fun q' => ?_)<;>(have h':=q')<;>(try simp only [za1,za2,Ba,Bb,za3,ne_eq,za4,za5,za6,Ia,Ib,Ic,Ie,Da,Bc,Bh,Be,za7,za8] at h')<;>try (exfalso; omega)) | (have q':=trivial; first | refine hE _ _ ret_ne ?_ | refine hE _ _ exit_ne ?_))<;>(try simp (disch:=first | omega | decide +kernel) only [q',D.bytes,setL,he2,Int.toNat_natCast,go_sem,Qa,Qb,Qc,Qd,Qe,↓reduceIte,reduceCtorEq,Qf,Qg,Qh])<;>clear q') | with_reducible refine And.intro ?_ ?_ | with_reducible omega | exact no_mem | (refine le_maxLen ?_; omega) | (refine za9 ⟨?_,?_⟩) | (simp only [go_sem,Qc,Qb,zb1,zb2,forall_eq]; done)))
   all_goals (first | omega | exact retM_ds rfl rfl rfl rfl)
def Draws (f : FuncId) (xs : List AV) (k : Nat) (Q : AV->Prop) (code : List Int) : Prop:=∀ at_ seed,at_ + k<=1099511627776->0<=seed->seed < 18446744073709551616 ->
 CtrR Tryd.prog f (.p 0 0 :: xs) (curO code at_ seed) [0] true fun r oo => ∃ at' seed',at_<=at'∧at'<=at_ + k∧0<=seed'∧seed' < 18446744073709551616∧oo=curO code at' seed'∧Q r
theorem callX_draw {N f cavs st dst K} (J : Nat) {xs k Q code at_ seed} (hs : Draws f xs k Q code) (hp : passM Tryd.prog (delL [J] st.o) (nth [J]) true cavs (.p 0 0 :: xs)) (ho : lkn J st.o=some ((curB code at_ seed).ren (nth [J])))
 (hd : dstB N dst) (h1 : at_ + k<=1099511627776) (h2 : 0<=seed) (h3 : seed < 18446744073709551616)
 (hK : ∀ r at' seed',at_<=at'->at'<=at_ + k->0<=seed'->seed' < 18446744073709551616->Q r->K (impM st dst (nth [J]) [] r (curO code at' seed'))) : callX Tryd.prog N f cavs dst K st :=
 callX_rel [J] [J] [] (hs at_ seed h1 h2 h3) hp ⟨ho,trivial⟩ (by simp [namesI,keysO,nth]) hd fun r oo ⟨at',seed',a1,a2,a3,a4,e,hQ⟩ => by
  subst e; exact ⟨by simp [namesOK,keysO,nth],hK r at' seed' a1 a2 a3 a4 hQ⟩
theorem retR_draw {t : Nat} {u : Nat->Value} {st : St} {code : List Int} {at_ k : Nat} {Q : AV->Prop} {at' : Nat} {seed' : Int} {x : D} (h : lk t st.s=some (.d x)) (ho : lk 0 st.o=some (curB code at' seed')) (hk : lk 1000000000 st.s=some (.hdr 0 (u 0)))
 (h1 : at_<=at') (h2 : at'<=at_ + k) (h3 : 0<=seed') (h4 : seed' < 18446744073709551616) (hQ : Q (.d x)) :
 retR Tryd.prog [.tmp t] u [0] true (fun r oo => ∃ at' seed',at_<=at'∧at'<=at_ + k∧0<=seed'∧seed' < 18446744073709551616∧oo=curO code at' seed'∧Q r) .ret st :=
 ⟨_,_,⟨at',seed',h1,h2,h3,h4,rfl,hQ⟩,retM_ds h ho hk rfl⟩
@[reducible] def QI (Q : Int->Prop) : AV->Prop:=fun r => ∃ x,r=.d (.int .i64 x)∧Q x
theorem next_draws {code : List Int} (hc : CodeOK code) : Draws 134 [] 1 (QI fun x => 0<=x∧x<=255) code:=fun at_ seed h1 h2 h3 => by
 obtain ⟨x,s,a1,a2,a3,a4,h⟩:=next_ok hc (at_:=at_) (seed:=seed) ⟨by omega,h2,h3⟩
 exact h.rel.mono fun r o ⟨e1,e2⟩ => ⟨at_ + 1,s,by omega,by omega,a3,a4,e2,x,e1,a1,a2⟩
end Abs.Y
