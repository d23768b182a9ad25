/- What functions of this program compute, over plain data. No condition. -/
import Derived.Test.YtckigpgkmdhfoaaCP1
import Derived.Test.YtckigpgkmdhfoaaB1
import Derived.Test.YtckigpgkmdhfoaaA2
import Derived.Test.YtckigpgkmdhfoaaV9
import Derived.Test.YtckigpgkmdhfoaaFacts
import Derived.Test.YtckigpgkmdhfoaaG3
import Derived.Test.YtckigpgkmdhfoaaV2
import Derived.Test.YtckigpgkmdhfoaaK0
set_option linter.all false
open Nat renaming reduceEqDiff -> Qa, reduceLT -> Qb, reduceAdd -> Qc, reduceMul -> Qd, reduceSub -> Qe, reduceLeDiff -> Qf, reduceSubDiff -> Qg, reduceBEq -> Qh
open Bool renaming not_eq_true' -> Ba, not_eq_false' -> Bb, and_eq_true -> Bc, or_eq_true -> Bh, or_eq_false_iff -> Be
open Int renaming ofNat_lt -> Ia, ofNat_le -> Ib, not_lt -> Ic, not_le -> Ie
open Decidable renaming not_not -> Da
namespace Abs.Y
open Go Go.Proofs Abs
set_option maxRecDepth 100000

theorem stP_get {p : Int} {v : List Int} {m : Nat} {c : Int} {i : Nat} : (stP p v m c).getD i 0=if m=i∧i < v.length then (v.getD m 0 + c) % p else v.getD i 0:=by
 unfold stP; exact getD_set v m _ i
theorem stP_len (p : Int) (v : List Int) (m : Nat) (c : Int) : (stP p v m c).length=v.length:=by unfold stP; simp
theorem rowS_len (p : Int) (b : List (Int × Int)) (m : Nat) (c : Int) : ∀ (v : List Int),(rowS p b m c v).length=v.length:=by
 unfold rowS
 induction b with
 | nil => intro v; rfl
 | cons t r ih => intro v; rw [List.foldl_cons,ih,stP_len]
theorem rowS_off {p : Int} {b : List (Int × Int)} {m : Nat} {c : Int} {i : Nat} : ∀ (v : List Int),(∀ t ∈ b,m ||| t.1.toNat ≠ i)->(rowS p b m c v).getD i 0=v.getD i 0:=by
 unfold rowS
 induction b with
 | nil => intro v _; rfl
 | cons t r ih =>
   intro v h
   rw [List.foldl_cons,ih _ fun t' h' => h t' (by simp [h']),stP_get,if_neg fun h' => h t (by simp) h'.1]
theorem mulS_off {p : Int} {b : List (Int × Int)} {i : Nat} : ∀ (a : List (Int × Int)) (v : List Int),(∀ s ∈ a,∀ t ∈ b,s.1.toNat ||| t.1.toNat ≠ i)->(a.foldl (fun v s => rowS p b s.1.toNat s.2 v) v).getD i 0=v.getD i 0
 | [],_,_ => rfl
 | s :: r,v,h => by rw [List.foldl_cons,mulS_off r _ fun s' h' => h s' (by simp [h']),rowS_off _ (h s (by simp))]
theorem mulS_foldlen {p : Int} {b : List (Int × Int)} : ∀ (a : List (Int × Int)) (v : List Int),(a.foldl (fun v s => rowS p b s.1.toNat s.2 v) v).length=v.length
 | [],_ => rfl
 | s :: r,v => by rw [List.foldl_cons,mulS_foldlen r,rowS_len]
theorem mulS_one {p : Int} {n : Nat} {b1 b2 a1 a2 : List (Int × Int)} {s t : Int × Int} {i : Nat} (hi : i < n) (hs : s.1.toNat ||| t.1.toNat=i)
 (h1 : ∀ s' ∈ a1++a2,∀ t' ∈ b1++t :: b2,s'.1.toNat ||| t'.1.toNat ≠ i) (h2 : ∀ t' ∈ b1++b2,s.1.toNat ||| t'.1.toNat ≠ i) :
 (mulS p n (a1++s :: a2) (b1++t :: b2)).getD i 0=s.2 * t.2 % p:=by
 unfold mulS
 rw [List.foldl_append,List.foldl_cons,mulS_off a2 _ fun s' h' => h1 s' (by simp [h'])]
 have e : rowS p (b1++t :: b2) s.1.toNat s.2=fun v => rowS p b2 s.1.toNat s.2 (stP p (rowS p b1 s.1.toNat s.2 v) (s.1.toNat ||| t.1.toNat) (s.2 * t.2)):=by
  funext v; unfold rowS; rw [List.foldl_append,List.foldl_cons]
 rw [e]
 dsimp only
 have hlen : (rowS p b1 s.1.toNat s.2 (a1.foldl (fun v s => rowS p (b1++t :: b2) s.1.toNat s.2 v) (List.replicate n 0))).length=n:=by
  rw [rowS_len,mulS_foldlen,List.length_replicate]
 rw [rowS_off _ fun t' h' => h2 t' (by simp [h']),stP_get,hs,if_pos ⟨rfl,by rw [hlen]; exact hi⟩,rowS_off _ fun t' h' => h2 t' (by simp [h']),
  mulS_off a1 _ fun s' h' => h1 s' (by simp [h']),getD_zero,Int.zero_add]
theorem mulS_from {p : Int} {n : Nat} {a b : List (Int × Int)} {i : Nat} (h : (mulS p n a b).getD i 0 ≠ 0) : ∃ s ∈ a,∃ t ∈ b,s.1.toNat ||| t.1.toNat=i:=by
 refine Classical.byContradiction fun hn => h ?_
 unfold mulS
 rw [mulS_off a _ fun s hs t ht e => hn ⟨s,hs,t,ht,e⟩,getD_zero]
theorem mem_sp {v : List Int} {t : Int × Int} : t ∈ spT v↔∃ m,m < v.length∧v.getD m 0 ≠ 0∧t=((m : Int),v.getD m 0):=by
 unfold spT
 rw [List.mem_map]
 constructor
 . rintro ⟨m,hm,rfl⟩
   rw [List.mem_filter,List.mem_range,decide_eq_true_eq] at hm
   exact ⟨m,hm.1,hm.2,rfl⟩
 . rintro ⟨m,h1,h2,rfl⟩
   exact ⟨m,by rw [List.mem_filter,List.mem_range,decide_eq_true_eq]; exact ⟨h1,h2⟩,rfl⟩
theorem sp_nodup (v : List Int) : (spT v).Pairwise fun s t => s.1 ≠ t.1:=by
 unfold spT
 rw [List.pairwise_map]
 exact ((List.nodup_range (n:=v.length)).sublist List.filter_sublist).imp fun h e => h (by dsimp only at e; omega)
structure Tops (n : Nat) (v : List Int) (M : Nat) : Prop where
 len : v.length=n
 lt : M < n
 sub : ∀ m,v.getD m 0 ≠ 0->m &&& M=m
 top : v.getD M 0 ≠ 0
theorem or_bit_inj {a b k : Nat} (ha : a.testBit k=false) (hb : b.testBit k=false) (h : a ||| 2 ^ k=b ||| 2 ^ k) : a=b:=by
 refine Nat.eq_of_testBit_eq fun i => ?_
 have:=congrArg (fun x => x.testBit i) h
 simp only [Nat.testBit_or,Nat.testBit_two_pow] at this
 by_cases hi : k=i
 . subst hi; rw [ha,hb]
 . simpa [hi] using this
theorem sub_bit {m M k : Nat} (h : m &&& M=m) (hk : M.testBit k=false) : m.testBit k=false:=by
 rw [← h,Nat.testBit_and,hk,Bool.and_false]
theorem split_sp {v : List Int} {M : Nat} (hl : M < v.length) (ht : v.getD M 0 ≠ 0) : ∃ a1 a2,spT v=a1++((M : Int),v.getD M 0) :: a2∧∀ s ∈ a1++a2,s ∈ spT v∧s.1 ≠ M:=by
 obtain ⟨a1,a2,h⟩:=List.append_of_mem (mem_sp.2 ⟨M,hl,ht,rfl⟩ : ((M : Int),v.getD M 0) ∈ spT v)
 refine ⟨a1,a2,h,fun s hs => ?_⟩
 have hp:=sp_nodup v
 rw [h,List.pairwise_append,List.pairwise_cons] at hp
 rcases List.mem_append.1 hs with hs | hs
 . exact ⟨by rw [h]; exact List.mem_append.2 (.inl hs),hp.2.2 s hs _ (List.mem_cons_self ..)⟩
 . exact ⟨by rw [h]; exact List.mem_append.2 (.inr (List.mem_cons_of_mem _ hs)),fun e => hp.2.1.1 s hs e.symm⟩
theorem sub_or {m M k : Nat} (h : m &&& M=m) : m &&& (M ||| 2 ^ k)=m∧(m ||| 2 ^ k) &&& (M ||| 2 ^ k)=m ||| 2 ^ k:=by
 have hb : ∀ i,m.testBit i=(m.testBit i && M.testBit i):=fun i => by
  have:=congrArg (fun x => x.testBit i) h
  simpa [Nat.testBit_and] using this.symm
 constructor
 . refine Nat.eq_of_testBit_eq fun i => ?_
   rw [Nat.testBit_and,Nat.testBit_or]
   have:=hb i
   cases h1 : m.testBit i<;>cases h2 : M.testBit i<;>simp_all
 . refine Nat.eq_of_testBit_eq fun i => ?_
   rw [Nat.testBit_and,Nat.testBit_or,Nat.testBit_or]
   have:=hb i
   cases h1 : m.testBit i<;>cases h2 : M.testBit i<;>simp_all
theorem neg_ne {p c : Int} (hp : 1 < p) (h : 0<=c∧c < p) (hc : c ≠ 0) : c * (p - 1) % p ≠ 0:=by
 have e : c * (p - 1)=(p - c) + p * (c - 1):=by rw [Int.mul_sub,Int.mul_sub,Int.mul_comm c p]; omega
 rw [e,Int.add_mul_emod_self_left,Int.emod_eq_of_lt (by omega) (by omega)]
 omega
theorem tops_step {p : Int} {u : Nat} (hp : 1 < p∧p<=5) (hu : u<=6) {v : List Int} (hv : Vec p (2 ^ u) v) {M k : Nat} (hT : Tops (2 ^ u) v M) (hk : k < u) (hM : M.testBit k=false) {l : Int} (hl : l.natAbs=k + 1) :
 Tops (2 ^ u) (mulD p (2 ^ u) v (litD p u l)) (M ||| 2 ^ k):=by
 have hMk : M ||| 2 ^ k < 2 ^ u:=Nat.or_lt_two_pow hT.lt (Nat.pow_lt_pow_right (by decide) hk)
 have hlen : (litD p u l).length=2 ^ u:=(Vec.lit (p:=p) hp.1 u l).1
 obtain ⟨a1,a2,ha,hao⟩:=split_sp (by rw [hT.len]; exact hT.lt) hT.top
 have hsa : ∀ s ∈ spT v,∃ m : Nat,s.1.toNat=m∧(s.1=(m : Int))∧m &&& M=m:=fun s hs => by
  obtain ⟨m,_,h2,rfl⟩:=mem_sp.1 hs
  exact ⟨m,by simp,rfl,hT.sub m h2⟩
 have hne : ∀ s ∈ a1++a2,s.1.toNat ||| 2 ^ k ≠ M ||| 2 ^ k:=fun s hs e => by
  obtain ⟨h1,h2⟩:=hao s hs
  obtain ⟨m,h3,h4,h5⟩:=hsa s h1
  rw [h3] at e
  exact h2 (by rw [h4,or_bit_inj (sub_bit h5 hM) hM e])
 have hnb : ∀ m : Nat,m.testBit k=false->m ≠ M ||| 2 ^ k:=fun m hm e => by
  rw [e,Nat.testBit_or,Nat.testBit_two_pow] at hm; simp at hm
 have hcM:=hv.2 M
 have h2k : ((2 ^ k : Nat) : Int).toNat=2 ^ k:=Int.toNat_natCast _
 rw [← mul_eq (p:=p) (n:=2 ^ u) (a:=v) (b:=litD p u l) (by omega)]
 refine ⟨(Vec.mulS (p:=p) (by omega) (2 ^ u) _ _).1,hMk,fun i hi => ?_,?_⟩
 . obtain ⟨s,hs,t,ht,e⟩:=mulS_from hi
   obtain ⟨m,h3,_,h5⟩:=hsa s hs
   rw [h3] at e
   have ht2 : t.1.toNat=0∨t.1.toNat=2 ^ k:=by
    unfold litD at ht
    by_cases hpos : 0 < l
    . rw [if_pos hpos,show (l - 1).toNat=k by omega,sp_mono u (by omega) k hk,List.mem_singleton] at ht
      subst ht; exact .inr h2k
    . rw [if_neg hpos,show (0 - l - 1).toNat=k by omega,sp_neg hp hu hk] at ht
      simp only [List.mem_cons,List.not_mem_nil,or_false] at ht
      rcases ht with rfl | rfl
      . exact .inl rfl
      . exact .inr h2k
   rcases ht2 with h | h<;>rw [h] at e
   . rw [Nat.or_zero] at e; rw [← e]; exact (sub_or h5).1
   . rw [← e]; exact (sub_or h5).2
 . unfold litD
   by_cases hpos : 0 < l
   . rw [if_pos hpos,show (l - 1).toNat=k by omega,sp_mono u (by omega) k hk,ha]
     rw [show ([(((2 ^ k : Nat) : Int),(1 : Int))] : List (Int × Int))=[]++(((2 ^ k : Nat) : Int),(1 : Int)) :: [] from rfl,
      mulS_one hMk (by rw [h2k,Int.toNat_natCast]) (fun s' hs' t' ht' => by
       rw [List.nil_append,List.mem_singleton] at ht'; subst ht'; dsimp only; rw [h2k]; exact hne s' hs') (fun t' ht' => by simp at ht')]
     rw [Int.mul_one,Int.emod_eq_of_lt hcM.1 hcM.2]; exact hT.top
   . rw [if_neg hpos,show (0 - l - 1).toNat=k by omega,sp_neg hp hu hk,ha]
     rw [show ([((0 : Int),(1 : Int)),(((2 ^ k : Nat) : Int),p - 1)] : List (Int × Int))=[((0 : Int),(1 : Int))]++(((2 ^ k : Nat) : Int),p - 1) :: [] from rfl,
      mulS_one hMk (by rw [h2k,Int.toNat_natCast]) (fun s' hs' t' ht' => by
       rw [List.singleton_append,List.mem_cons,List.mem_singleton] at ht'
       rcases ht' with rfl | rfl
       . obtain ⟨m,h3,_,h5⟩:=hsa s' (hao s' hs').1
         dsimp only
         rw [show Int.toNat 0=0 from rfl,Nat.or_zero,h3]
         exact hnb m (sub_bit h5 hM)
       . dsimp only; rw [h2k]; exact hne s' hs') (fun t' ht' => by
       rw [List.append_nil,List.mem_singleton] at ht'; subst ht'
       dsimp only
       rw [show Int.toNat 0=0 from rfl,Nat.or_zero,Int.toNat_natCast]
       exact hnb M hM)]
     exact neg_ne hp.1 hcM hT.top
def maskV (c : List Int) : Nat:=c.foldl (fun M l => M ||| 2 ^ (l.natAbs - 1)) 0
theorem cnt_or : ∀ M,M < 64->∀ k,k < 6->M.testBit k=false->cnt (M ||| 2 ^ k)=cnt M + 1:=by decide +kernel
theorem cnt_sub : ∀ M,M < 64->∀ m,m < 64->m &&& M=m->cnt m<=cnt M:=by decide +kernel
theorem tops_clause {p : Int} {u : Nat} (hp : 1 < p∧p<=5) (hu : u<=6) {c : List Int} (g : c.Pairwise fun x y => x.natAbs < y.natAbs) (hc : ∀ l ∈ c,LitU u l) :
 ∃ M,Tops (2 ^ u) (clauseD p u c) M∧cnt M=c.length:=by
 have key : ∀ (c : List Int) (v : List Int) (M : Nat),Vec p (2 ^ u) v->Tops (2 ^ u) v M->c.Pairwise (fun x y => x.natAbs < y.natAbs)->(∀ l ∈ c,LitU u l)->(∀ l ∈ c,∀ k,l.natAbs - 1<=k->M.testBit k=false) ->
  ∃ M',Tops (2 ^ u) (c.foldl (fun v l => mulD p (2 ^ u) v (litD p u (0 - l))) v) M'∧cnt M'=cnt M + c.length:=by
  intro c
  induction c with
  | nil => intro v M _ hT _ _ _; exact ⟨M,hT,rfl⟩
  | cons l c ih =>
    intro v M hv hT hg hc hM
    have hl:=hc l (by simp)
    unfold LitU at hl
    have hk : l.natAbs - 1 < u:=by omega
    have hMk:=hM l (by simp) (l.natAbs - 1) (Nat.le_refl _)
    have h64 : M < 64:=Nat.lt_of_lt_of_le hT.lt (Nat.le_trans (Nat.pow_le_pow_right (by decide) hu) (by decide))
    have hT2:=tops_step hp hu hv hT hk hMk (l:=0 - l) (by omega)
    obtain ⟨h1,h2⟩:=List.pairwise_cons.1 hg
    obtain ⟨M',h3,h4⟩:=ih _ _ (Vec.mulD (by omega) _ _ _) hT2 h2 (fun l' h' => hc l' (by simp [h'])) fun l' h' k hk' => by
     have h5:=h1 l' h'
     rw [Nat.testBit_or,hM l' (by simp [h']) k hk',Nat.testBit_two_pow,Bool.false_or,decide_eq_false]
     omega
    refine ⟨M',h3,?_⟩
    rw [h4,cnt_or M h64 _ (by omega) hMk,List.length_cons]; omega
 have h0 : ∀ u,u<=6->Tops (2 ^ u) (monoD u 0) 0:=fun u _ => ⟨mono_len u 0,Nat.two_pow_pos u,fun m hm => by
  rw [mono_get hp.1 (Nat.two_pow_pos u)] at hm
  split at hm
  . rename_i h; subst h; rfl
  . exact absurd rfl hm,by rw [mono_get hp.1 (Nat.two_pow_pos u),if_pos rfl]; decide⟩
 obtain ⟨M,h1,h2⟩:=key c (monoD u 0) 0 (Vec.mono hp.1 u 0) (h0 u hu) g hc fun l _ k _ => Nat.zero_testBit k
 exact ⟨M,h1,by rw [h2,show cnt 0=0 from rfl,Nat.zero_add]⟩
theorem deg_tops {u : Nat} (hu : u<=6) {v : List Int} {M : Nat} (hT : Tops (2 ^ u) v M) : degD v=cnt M:=by
 have h64 : 2 ^ u<=64:=pow_le6 hu
 have hMl:=hT.lt
 have hvl:=hT.len
 have key : ∀ k,k<=v.length->∀ d : Int,-1<=d->d<=cnt M->(∀ e,e=(List.range k).foldl (fun d m => if v.getD m 0=0 then d else max d (cnt m : Int)) d->d<=e∧e<=cnt M∧(M < k->e=cnt M)):=by
  intro k
  induction k with
  | zero => intro _ d h1 h2 e he; rw [he]; exact ⟨Int.le_refl _,h2,fun h => absurd h (by omega)⟩
  | succ k ih =>
    intro hk d h1 h2 e he
    obtain ⟨h3,h4,h5⟩:=ih (by omega) d h1 h2 _ rfl
    rw [List.range_succ,List.foldl_append,List.foldl_cons,List.foldl_nil] at he
    generalize (List.range k).foldl (fun d m => if v.getD m 0=0 then d else max d (cnt m : Int)) d=w at *
    by_cases hz : v.getD k 0=0
    . rw [if_pos hz] at he
      subst he
      refine ⟨h3,h4,fun h => ?_⟩
      by_cases hMk : M=k
      . subst hMk; exact absurd hz hT.top
      . exact h5 (by omega)
    . rw [if_neg hz] at he
      have hc:=cnt_sub M (by omega) k (by omega) (hT.sub k hz)
      subst he
      refine ⟨by omega,by omega,fun h => ?_⟩
      by_cases hMk : M=k
      . subst hMk; omega
      . have:=h5 (by omega); omega
 exact ((key v.length (Nat.le_refl _) (-1) (by omega) (by omega) _ rfl).2.2 (by omega))
theorem deg_clause {p : Int} {u : Nat} (hp : 1 < p∧p<=5) (hu : u<=6) {c : List Int} (g : c.Pairwise fun x y => x.natAbs < y.natAbs) (hc : ∀ l ∈ c,LitU u l) : degD (clauseD p u c)=c.length:=by
 obtain ⟨M,h1,h2⟩:=tops_clause hp hu g hc
 rw [deg_tops hu h1,h2]
end Abs.Y

namespace Abs.Y
open Go Go.Proofs Abs
set_option maxRecDepth 100000

end Abs.Y

namespace Abs.Y
open Go Go.Proofs Abs
set_option maxRecDepth 100000

def Barr (p : Int) (u : Nat) (d : Int) (cs L : List (List Int)) (R : List (List Int)) : Prop :=
 (∀ a ∈ L,degD a<=d)∧(∀ a ∈ clausesD p u d cs,Sp p (2 ^ u) R a)∧Closed p u d R∧¬ Sp p (2 ^ u) R (monoD u 0)
end Abs.Y

namespace Abs.Y
open Go Go.Proofs Abs
set_option maxRecDepth 100000

section
variable {p : Int} {u : Nat} (hp : 1 < p∧p<=5) (hu : u<=6)
include hp hu
end
end Abs.Y

namespace Abs.Y
open Go Go.Proofs Abs
set_option maxRecDepth 100000

def sumC (p : Int) (u : Nat) (cs : List (List Int)) (list : List (List (Int × Int))) (k : Nat) : List Int :=
 (List.range k).foldl (fun v i => addD p 1 v (mulD p (2 ^ u) (dnT (2 ^ u) (list.getD i [])) (clauseD p u (cs.getD i [])))) (List.replicate (2 ^ u) 0)
section
variable {p : Int} {u : Nat} (hp : 1 < p∧p<=5) (hu : u<=6)
include hp hu
end
end Abs.Y

namespace Abs.Y
open Go Go.Proofs Abs
set_option maxRecDepth 100000

@[reducible] def D.sp (v : List Int) : D:=D.tms (spT v)
structure RowsB (p : Int) (u : Nat) (R : List (List Int)) : Prop where
 vec : AllV p (2 ^ u) R
 nz : ∀ r ∈ R,¬ ldI r < 0
 bd : R.length<=64
def restK (p : Int) (R : List (List Int)) (a : List Int) (i : Nat) : List Int:=redD p ldG (R.drop (R.length - i)).reverse a
section
variable {p : Int} {u : Nat} (hp : 1 < p∧p<=5) (hu : u<=6)
include hp hu
end
section
variable {p : Int} {u : Nat} (hp : p=2∨p=3∨p=5) (hu : u<=6)
include hp hu
end
end Abs.Y

namespace Abs.Y
open Go Go.Proofs Abs
set_option maxRecDepth 100000

def goodL (p v : Int) (cs : List (List Int)) (list : List (List (Int × Int))) : Bool:=((okCnf v cs && primeB p v) && decide (list.length=cs.length)) && list.all (isT p (2 ^ v.toNat))
end Abs.Y

namespace Abs.Y
open Go Go.Proofs Abs
set_option maxRecDepth 100000
section
variable {p : Int} {u : Nat} (hp : 1 < p∧p<=5) (hu : u<=6)
include hp hu
end
end Abs.Y

namespace Abs.Y
open Go Go.Proofs Abs
set_option maxRecDepth 100000
section
variable {p : Int} {u : Nat} (hp : 1 < p∧p<=5) (hu : u<=6)
include hp hu
end
end Abs.Y

namespace Abs.Y
open Go Go.Proofs Abs
set_option maxRecDepth 100000

section
variable {p : Int} {u : Nat} (hp : 1 < p∧p<=5) (hu : u<=6)
include hp hu
end
end Abs.Y

namespace Abs.Y
open Go Go.Proofs Abs
set_option maxRecDepth 100000

section
variable {p : Int} {u : Nat} (hp : 1 < p∧p<=5) (hu : u<=6)
include hp hu
end
def prodsK (p : Int) (u : Nat) (r : List Int) (j : Nat) : List (List Int):=(List.range j).map (fun v => mulX p u r ((v : Nat) + 1 : Int))
section
variable {p : Int} {u : Nat} (hp : p=2∨p=3∨p=5) (hu : u<=6)
def basR (cs : List (List Int)) (d : Int) : List (List Int):=(keepR p u hp hu).fin cs d []
end
end Abs.Y

namespace Abs.Y
open Go Go.Proofs Abs
set_option maxRecDepth 100000

theorem clause_lits {u : Nat} {c : List Int} (h1 : okClause u c=true) : ∀ l ∈ c,LitU u l:=fun l hl => by
 simp only [okClause,Bc,decide_eq_true_eq] at h1
 obtain ⟨j,hj,rfl⟩:=mem_getD 0 hl
 obtain ⟨⟨h2,h3,h4⟩,_⟩:=h1.2 j hj
 unfold LitU
 omega
def degB (d : Int) : Bool:=decide (0<=d) && decide (d<=6)
def leastB (ask : Bool) (i : Int) : Bool:=ask && decide (0<=i)
def leastV (ask : Bool) (i : Int) : Int:=if leastB ask i then i else 0
def dimsL (D : Nat->Nat) (n : Nat) : List Int:=(List.range n).map fun d => ((D d : Nat) : Int)
end Abs.Y

namespace Abs
open Go Go.Proofs
theorem Ctr.eat3 {P : Program} {f : FuncId} {x y r : D} {es : List D} {e : TypeId} {k : Nat} (h : Ctr P f [x,y,.slice es] true (.d r) []) : CtrM P f [.d x,.d y,.sl 0] [(0,.arr e k es)] [] true (.d r) []:=by
 refine ⟨h.1,fun S β φ w vs hl hr ho hd => ?_⟩
 have hb : ∀ g,φ 0 g->blocksOf φ [(0,AO.arr e k es)] g:=fun g hg => ⟨0,_,rfl,hg⟩
 refine (h.2 (fun g => S g∨φ 0 g) w vs (by simpa using hl) fun i hi => ?_).mono fun en w' ⟨v,he,hf,β',φ',h1,h2,h3,h4⟩ => ⟨v,he,⟨hf.os,hf.tape,hf.output,hf.le,hf.size,?_,?_⟩,β',φ',by simp,?_,by simp [lk],by simp [lk],by simp [lk]⟩
 . match i,hi with
   | 0, _ =>
     have:=hr 0 (by simp)
     simp only [List.getD_cons_zero] at this ⊢
     cases this with
     | d this => exact this.weaken fun g hg => .inl hg.1
   | 1, _ =>
     have:=hr 1 (by simp)
     simp only [List.getD_cons_zero,List.getD_cons_succ] at this ⊢
     cases this with
     | d this => exact this.weaken fun g hg => .inl hg.1
   | 2, _ =>
     have:=hr 2 (by simp)
     simp only [List.getD_cons_zero,List.getD_cons_succ] at this ⊢
     generalize vs.getD 2 Go.undef=y at *
     cases this
     exact rd_of_arr (ho 0 (.arr e k es) (by simp [lk])) (fun g hg _ => .inl hg.1) fun g hg => .inr hg
 . exact fun g hg _ => hf.block g hg fun h => h
 . exact hf.drawn
 . cases h1 with
   | d h1 =>
     refine .d (h1.weaken fun g hg => ⟨?_,by simp [lk]⟩)
     rcases hg.1 with h5 | ⟨_,h5 | h5⟩
     . exact .inl h5
     . exact .inr (.inr ⟨rfl,h5⟩)
     . exact .inr (.inl (hb g h5))
end Abs
namespace Abs.Y
open Go Go.Proofs Abs
set_option maxRecDepth 100000

def cpB (p v : Int) (c : List Int) : Bool:=primeB p v && okClause v c
theorem iClausePoly_no {p v : Int} {c : List Int} (hl : c.length<=1000) (h : cpB p v c=false) : Ctr Try.prog 20 [.int .i64 p,.int .i64 v,.ints c] true (.tup [.d (.slice []),.d (.bool false)]) []:=by
 have c1:=Ctr.tupN (ys:=[_,_]) (ringOf_ok p v)
 have c2:=isClause_ok v c (by omega)
 unfold cpB at h
 simp only [D.ints] at c2
 cases h1 : primeB p v<;>cases h2 : okClause v c<;>rw [h1] at c1 h<;>rw [h2] at c2 h<;>first | cases h | skip
 all_goals
  refine Ctr.of (n:=28) (rs:=[.tmp 6,.tmp 7]) Try.func20 rfl rfl Try.ntmps20 rfl rfl (by kernel_rfl) Try.checked.mixed ?_
  simp (disch:=first | omega | decide +kernel) only [D.ints,go_sem,Qa,Qb,Qc,Qd,Qe,↓reduceIte,reduceCtorEq,Qf,Qg,Qh]
  (repeat' (first | ((first | (refine gsel_split (fun q' => ?_) (fun q' => ?_)<;>(have h':=q')<;>(try simp only [za1,za2,Ba,Bb,za3,ne_eq,za4,za5,za6,Ia,Ib,Ic,Ie,Da,Bc,Bh,Be,za7,za8] at h')<;>try (exfalso; omega)) | (have q':=trivial; first | refine callX_new (c1) rfl (by decide) ?_ | refine callY_new (c1) rfl ?_ | refine callX_new (c2) rfl (by decide) ?_ | refine callY_new (c2) rfl ?_ | refine hE _ _ ret_ne ?_ | refine hE _ _ exit_ne ?_))<;>(try simp (disch:=first | omega | decide +kernel) only [q',D.ints,go_sem,Qa,Qb,Qc,Qd,Qe,↓reduceIte,reduceCtorEq,Qf,Qg,Qh])<;>clear q') | refine hN _ ?_ ?_ Wk.kk | with_reducible refine And.intro ?_ ?_ | with_reducible omega | exact ok_ints | exact cells_ints | exact no_mem | with_reducible exact plain_ints | (refine le_maxLen ?_; omega) | (refine za9 ⟨?_,?_⟩) | (simp only [go_sem,Qc,Qb,zb1,zb2,forall_eq]; done)))
 all_goals (first | exact ret_s2 [6] rfl rfl)
theorem sClausePoly_no {p v : Int} {c : List Int} (hl : c.length<=1000) (h : cpB p v c=false) : Ctr Try.prog 21 [.int .i64 p,.int .i64 v,.ints c] true (.tup [.d (.slice []),.d (.bool false)]) []:=by
 have c1:=l18Prime_ok p v
 have c2:=l2Clause_ok v c (by omega)
 unfold cpB at h
 simp only [D.ints] at c2
 cases h1 : primeB p v<;>cases h2 : okClause v c<;>rw [h1] at c1 h<;>rw [h2] at c2 h<;>first | cases h | skip
 all_goals
  refine Ctr.of (n:=23) (rs:=[.tmp 6,.tmp 7]) Try.func21 rfl rfl Try.ntmps21 rfl rfl (by kernel_rfl) Try.checked.mixed ?_
  simp (disch:=first | omega | decide +kernel) only [D.ints,go_sem,Qa,Qb,Qc,Qd,Qe,↓reduceIte,reduceCtorEq,Qf,Qg,Qh]
  (repeat' (first | ((first | (refine gsel_split (fun q' => ?_) (fun q' => ?_)<;>(have h':=q')<;>(try simp only [za1,za2,Ba,Bb,za3,ne_eq,za4,za5,za6,Ia,Ib,Ic,Ie,Da,Bc,Bh,Be,za7,za8] at h')<;>try (exfalso; omega)) | (have q':=trivial; first | refine callX_new (c1) rfl (by decide) ?_ | refine callY_new (c1) rfl ?_ | refine callX_new (c2) rfl (by decide) ?_ | refine callY_new (c2) rfl ?_ | refine hE _ _ ret_ne ?_ | refine hE _ _ exit_ne ?_))<;>(try simp (disch:=first | omega | decide +kernel) only [q',D.ints,go_sem,Qa,Qb,Qc,Qd,Qe,↓reduceIte,reduceCtorEq,Qf,Qg,Qh])<;>clear q') | refine hN _ ?_ ?_ Wk.kk | with_reducible refine And.intro ?_ ?_ | with_reducible omega | exact ok_ints | exact cells_ints | exact no_mem | with_reducible exact plain_ints | (refine le_maxLen ?_; omega) | (refine za9 ⟨?_,?_⟩) | (simp only [go_sem,Qc,Qb,zb1,zb2,forall_eq]; done)))
 all_goals (first | exact ret_s2 [18] rfl rfl)
section
variable {p : Int} {u : Nat} (hp : 1 < p∧p<=5) (hu : u<=6) (hpr : primeB p u=true)
include hp hu hpr
theorem iClausePoly_yes {c : List Int} (hl : c.length<=1000) (h : okClause u c=true) : Ctr Try.prog 20 [.int .i64 p,.int .i64 (u : Nat),.ints c] true (.tup [.d (D.spP (clauseD p u c)),.d (.bool true)]) []:=by
 have c1:=Ctr.tupN (ys:=[_,_]) (ringOf_ok p u)
 have c2:=isClause_ok u c (by omega)
 have hL:=clause_lits h
 have c3:=clauseR_ok hp hu (c:=c) (by omega) hL
 have h6:=pow_le6 hu
 have hv : (clauseD p u c).length<=64:=by have:=(Vec.clause (p:=p) hp.1 u c).1; omega
 have c4:=termsP_ok hv
 rw [hpr] at c1
 rw [h] at c2
 simp only [D.ints] at c2 c3 c4
 generalize spT (clauseD p u c)=T at *
 generalize clauseD p u c=v at *
 refine Ctr.of (n:=28) (rs:=[.tmp 6,.tmp 7]) Try.func20 rfl rfl Try.ntmps20 rfl rfl (by kernel_rfl) Try.checked.mixed ?_
 simp (disch:=first | omega | decide +kernel) only [D.ints,go_sem,Qa,Qb,Qc,Qd,Qe,↓reduceIte,reduceCtorEq,Qf,Qg,Qh]
 (repeat' (first | ((first | (refine gsel_split (fun q' => ?_) (fun q' => ?_)<;>(have h':=q')<;>(try simp only [za1,za2,Ba,Bb,za3,ne_eq,za4,za5,za6,Ia,Ib,Ic,Ie,Da,Bc,Bh,Be,za7,za8] at h')<;>try (exfalso; omega)) | (have q':=trivial; first | refine callX_new (c1) rfl (by decide) ?_ | refine callY_new (c1) rfl ?_ | refine callX_new (c2) rfl (by decide) ?_ | refine callY_new (c2) rfl ?_ | refine callX_shared (c3) rfl (by decide) ?_ | refine callY_shared (c3) rfl ?_ | refine callX_shared (c4) rfl (by decide) ?_ | refine callY_shared (c4) rfl ?_ | refine hE _ _ ret_ne ?_ | refine hE _ _ exit_ne ?_))<;>(try simp (disch:=first | omega | decide +kernel) only [q',D.ints,go_sem,Qa,Qb,Qc,Qd,Qe,↓reduceIte,reduceCtorEq,Qf,Qg,Qh])<;>clear q') | refine hN _ ?_ ?_ Wk.kk | with_reducible refine And.intro ?_ ?_ | with_reducible omega | exact ok_ints | exact cells_ints | exact no_mem | with_reducible exact plain_ints | (refine le_maxLen ?_; omega) | (refine za9 ⟨?_,?_⟩) | (simp only [go_sem,Qc,Qb,zb1,zb2,forall_eq]; done)))
 all_goals (first | exact ret_s2 [] rfl rfl)
theorem sClausePoly_yes {c : List Int} (hl : c.length<=1000) (h : okClause u c=true) : Ctr Try.prog 21 [.int .i64 p,.int .i64 (u : Nat),.ints c] true (.tup [.d (D.spP (clauseD p u c)),.d (.bool true)]) []:=by
 have c1:=l18Prime_ok p u
 have c2:=l2Clause_ok u c (by omega)
 have hL:=clause_lits h
 have c3:=l18Clause_ok hp hu (c:=c) (by omega) hL
 rw [hpr] at c1
 rw [h] at c2
 simp only [D.ints] at c2 c3
 unfold D.spP
 generalize spT (clauseD p u c)=T at *
 refine Ctr.of (n:=23) (rs:=[.tmp 6,.tmp 7]) Try.func21 rfl rfl Try.ntmps21 rfl rfl (by kernel_rfl) Try.checked.mixed ?_
 simp (disch:=first | omega | decide +kernel) only [D.ints,go_sem,Qa,Qb,Qc,Qd,Qe,↓reduceIte,reduceCtorEq,Qf,Qg,Qh]
 (repeat' (first | ((first | (refine gsel_split (fun q' => ?_) (fun q' => ?_)<;>(have h':=q')<;>(try simp only [za1,za2,Ba,Bb,za3,ne_eq,za4,za5,za6,Ia,Ib,Ic,Ie,Da,Bc,Bh,Be,za7,za8] at h')<;>try (exfalso; omega)) | (have q':=trivial; first | refine callX_new (c1) rfl (by decide) ?_ | refine callY_new (c1) rfl ?_ | refine callX_new (c2) rfl (by decide) ?_ | refine callY_new (c2) rfl ?_ | refine callX_shared (c3) rfl (by decide) ?_ | refine callY_shared (c3) rfl ?_ | refine hE _ _ ret_ne ?_ | refine hE _ _ exit_ne ?_))<;>(try simp (disch:=first | omega | decide +kernel) only [q',D.ints,go_sem,Qa,Qb,Qc,Qd,Qe,↓reduceIte,reduceCtorEq,Qf,Qg,Qh])<;>clear q') | refine hN _ ?_ ?_ Wk.kk | with_reducible refine And.intro ?_ ?_ | with_reducible omega | exact ok_ints | exact cells_ints | exact no_mem | with_reducible exact plain_ints | (refine le_maxLen ?_; omega) | (refine za9 ⟨?_,?_⟩) | (simp only [go_sem,Qc,Qb,zb1,zb2,forall_eq]; done)))
 all_goals (first | exact ret_s2 [] rfl rfl)
theorem polyDegree_ok {a : List (Int × Int)} (hl : a.length<=4294967296) (hT : isT p (2 ^ u) a=true) : Ctr Try.prog 24 [.int .i64 p,.int .i64 (u : Nat),D.tms a] false (.tup [.d (.int .i64 (degD (dnT (2 ^ u) a))),.d (.bool true)]) []:=by
 have c1:=Ctr.tupN (ys:=[_,_,_]) (polys_ok hp hu (list:=[a]) hpr (by simp) (fun j => by cases j with | zero => exact hl | succ j => simp))
 have h6:=pow_le6 hu
 have c2:=degree_ok (v:=dnT (2 ^ u) a) (by rw [dnT_len]; omega)
 simp only [List.all_cons,List.all_nil,hT,Bool.and_self,if_true,List.map_cons,List.map_nil,D.ints] at c1 c2
 have c1:=Ctr.eat3 (e:=43) (k:=1) c1
 generalize degD (dnT (2 ^ u) a)=d at *
 generalize dnT (2 ^ u) a=v at *
 have hel : el [D.slice (v.map (.int .i64))] 0=.slice (v.map (.int .i64)):=rfl
 refine Ctr.of (n:=26) (rs:=[.tmp 6,.tmp 7]) Try.func24 rfl rfl Try.ntmps24 rfl rfl (by kernel_rfl) Try.checked.mixed ?_
 simp (disch:=first | omega | decide +kernel) only [D.ints,hel,go_sem,Qa,Qb,Qc,Qd,Qe,↓reduceIte,reduceCtorEq,Qf,Qg,Qh]
 (repeat' (first | ((first | (refine gsel_split (fun q' => ?_) (fun q' => ?_)<;>(have h':=q')<;>(try simp only [za1,za2,Ba,Bb,za3,ne_eq,za4,za5,za6,Ia,Ib,Ic,Ie,Da,Bc,Bh,Be,za7,za8] at h')<;>try (exfalso; omega)) | (have q':=trivial; first | refine callX_mut [15] [15] [15] (c1) ⟨.inl rfl,.inl rfl,.inl rfl,trivial⟩ ⟨rfl,trivial⟩ rfl (by simp [dstB]) ?_ | refine callX_new (c2) rfl (by decide) ?_ | refine callY_new (c2) rfl ?_ | refine hE _ _ ret_ne ?_ | refine hE _ _ exit_ne ?_))<;>(try simp (disch:=first | omega | decide +kernel) only [q',D.ints,hel,go_sem,Qa,Qb,Qc,Qd,Qe,↓reduceIte,reduceCtorEq,Qf,Qg,Qh])<;>clear q') | refine hN _ ?_ ?_ Wk.kk | with_reducible refine And.intro ?_ ?_ | with_reducible omega | exact ok_ints | exact cells_ints | exact no_mem | with_reducible exact plain_ints | (refine le_maxLen ?_; omega) | (refine za9 ⟨?_,?_⟩) | (simp only [go_sem,Qc,Qb,zb1,zb2,forall_eq]; done)))
 all_goals trace_state
set_option maxHeartbeats 4000000 in
theorem polyValues_ok {a : List (Int × Int)} (hl : a.length<=4294967296) (hT : isT p (2 ^ u) a=true) : Ctr Try.prog 23 [.int .i64 p,.int .i64 (u : Nat),D.tms a] true (.tup [.d (.ints ((List.range (2 ^ u)).map (ev p (dnT (2 ^ u) a)))),.d (.bool true)]) []:=by
 have c1:=Ctr.tupN (ys:=[_,_,_]) (polys_ok hp hu (list:=[a]) hpr (by simp) (fun j => by cases j with | zero => exact hl | succ j => simp))
 have h6:=pow_le6 hu
 have hv:=Vec.dn (p:=p) (by omega) (isT_tms hT)
 have c2:=fun (x : Nat) hx => value_ok hp hu hv (x:=x) hx
 have e : IntKind.wrap .i64 (1 * 2 ^ min u 64)=((2 ^ u : Nat) : Int):=shl_one (by omega)
 simp only [List.all_cons,List.all_nil,hT,Bool.and_self,if_true,List.map_cons,List.map_nil,D.ints] at c1 c2
 have c1:=Ctr.eat3 (e:=43) (k:=1) c1
 clear hv
 generalize dnT (2 ^ u) a=v at *
 generalize 2 ^ u=n at *
 refine Ctr.of (n:=40) (rs:=[.tmp 6,.tmp 7]) Try.func23 rfl rfl Try.ntmps23 rfl rfl (by kernel_rfl) Try.checked.mixed ?_
 simp (disch:=first | omega | decide +kernel) only [D.ints,e,go_sem,Qa,Qb,Qc,Qd,Qe,↓reduceIte,reduceCtorEq,Qf,Qg,Qh]
 (repeat' (first | ((first | (refine gsel_split (fun q' => ?_) (fun q' => ?_)<;>(have h':=q')<;>(try simp only [za1,za2,Ba,Bb,za3,ne_eq,za4,za5,za6,Ia,Ib,Ic,Ie,Da,Bc,Bh,Be,za7,za8] at h')<;>try (exfalso; omega)) | (have q':=trivial; first | refine callX_mut [17] [17] [17] (c1) ⟨.inl rfl,.inl rfl,.inl rfl,trivial⟩ ⟨rfl,trivial⟩ rfl (by simp [dstB]) ?_ | refine hE _ _ ret_ne ?_ | refine hE _ _ exit_ne ?_))<;>(try simp (disch:=first | omega | decide +kernel) only [q',D.ints,e,go_sem,Qa,Qb,Qc,Qd,Qe,↓reduceIte,reduceCtorEq,Qf,Qg,Qh])<;>clear q') | refine hN _ ?_ ?_ Wk.kk | with_reducible refine And.intro ?_ ?_ | with_reducible omega | exact ok_ints | exact cells_ints | exact no_mem | with_reducible exact plain_ints | (refine le_maxLen ?_; omega) | (refine za9 ⟨?_,?_⟩) | (simp only [go_sem,Qc,Qb,zb1,zb2,forall_eq]; done)))
 have hel : el [D.slice (v.map (.int .i64))] 0=.slice (v.map (.int .i64)):=rfl
 refine Ok.loopN [39,38,37,36,35,34,33,32,31,30,29,28,27,26,24,23,22,21,20,19,18,17,16,15,14,13,12,11,10,5,4,3] (fun i (_ : List Int) => [(26,.d (.int .i64 (i : Nat))),(11,.sl 11)]) (fun _ (o : List Int) => [(11,.arr 3 1 (o.map (.int .i64)))]) n (fun i o => o=(List.range i).map (ev p v)) [] rfl (Wk.kk) ?_
 rintro R i o hN hE hi ho
 have hol : o.length=i:=by rw [ho]; simp
 by_cases hlt : i < n
 . have hsu : (List.range (i + 1)).map (ev p v)=o++[ev p v i]:=by rw [List.range_succ,List.map_append,← ho]; rfl
   have c3:=c2 i (by omega)
   simp only [D.ring] at c3
   clear ho c2
   generalize ev p v i=y at *
   simp (disch:=first | omega | decide +kernel) only [D.ints,hel,go_sem,Qa,Qb,Qc,Qd,Qe,↓reduceIte,reduceCtorEq,Qf,Qg,Qh]
   (repeat' (first | ((first | (refine gsel_split (fun q' => ?_) (fun q' => ?_)<;>(have h':=q')<;>(try simp only [za1,za2,Ba,Bb,za3,ne_eq,za4,za5,za6,Ia,Ib,Ic,Ie,Da,Bc,Bh,Be,za7,za8] at h')<;>try (exfalso; omega)) | (have q':=trivial; first | refine callX_new (c3) rfl (by decide) ?_ | refine callY_new (c3) rfl ?_ | refine hE _ _ ret_ne ?_ | refine hE _ _ exit_ne ?_))<;>(try simp (disch:=first | omega | decide +kernel) only [q',D.ints,hel,go_sem,Qa,Qb,Qc,Qd,Qe,↓reduceIte,reduceCtorEq,Qf,Qg,Qh])<;>clear q') | refine hN _ ?_ ?_ Wk.kk | with_reducible refine And.intro ?_ ?_ | with_reducible omega | exact ok_ints | exact cells_ints | exact no_mem | with_reducible exact plain_ints | (refine le_maxLen ?_; omega) | (refine za9 ⟨?_,?_⟩) | (simp only [go_sem,Qc,Qb,zb1,zb2,forall_eq]; done)))
   all_goals (first | omega | exact hN (o++[y]) _ hlt hsu.symm (by refine Wk.auto ?_ ?_<;>simp [extraK,lk,killL,St.kill,wipeO,wipeS,AV.has,AV.hasL,AO.wipe,List.map_set,updSt,insL,dropS,ins,List.map_append,List.map_cons,List.map_nil]))
 . obtain rfl : i=n:=by omega
   have hf : (List.range i).map (ev p v)=o:=ho.symm
   clear c2
   simp (disch:=first | omega | decide +kernel) only [D.ints,go_sem,Qa,Qb,Qc,Qd,Qe,↓reduceIte,reduceCtorEq,Qf,Qg,Qh]
   (repeat' (first | ((first | (refine gsel_split (fun q' => ?_) (fun q' => ?_)<;>(have h':=q')<;>(try simp only [za1,za2,Ba,Bb,za3,ne_eq,za4,za5,za6,Ia,Ib,Ic,Ie,Da,Bc,Bh,Be,za7,za8] at h')<;>try (exfalso; omega)) | (have q':=trivial; first | refine hE _ _ ret_ne ?_ | refine hE _ _ exit_ne ?_))<;>(try simp (disch:=first | omega | decide +kernel) only [q',D.ints,go_sem,Qa,Qb,Qc,Qd,Qe,↓reduceIte,reduceCtorEq,Qf,Qg,Qh])<;>clear q') | refine hN _ ?_ ?_ Wk.kk | with_reducible refine And.intro ?_ ?_ | with_reducible omega | exact ok_ints | exact cells_ints | exact no_mem | with_reducible exact plain_ints | (refine le_maxLen ?_; omega) | (refine za9 ⟨?_,?_⟩) | (simp only [go_sem,Qc,Qb,zb1,zb2,forall_eq]; done)))
   all_goals (rw [hf]; exact ret_s2 [11] rfl rfl)
end
end Abs.Y

namespace Abs
open Go Go.Proofs
theorem retM_ds {P : Program} {t : Nat} {st : St} {x : D} {u : Nat->Value} {ob : AO} (h : lk t st.s=some (.d x)) (ho : lk 0 st.o=some ob) (hk : lk 1000000000 st.s=some (.hdr 0 (u 0))) (hr : ob.ren (fun j => j)=ob) :
 retM P [.tmp t] u [0] true (.d x) [(0,ob)] .ret st:=by
 simp only [retM,resV,h]
 exact ⟨trivial,⟨fun j => j,rfl,by simpa [hr] using ho,by simp,⟨rfl,hk,trivial⟩⟩,.inl trivial⟩
theorem CtrR.mono {P f avs oi keep sh} {R R' : AV->List (Nat × AO)->Prop} (h : CtrR P f avs oi keep sh R) (hR : ∀ r o,R r o->R' r o) : CtrR P f avs oi keep sh R' :=
 ⟨h.1,fun S β φ w vs h1 h2 h3 h4 => (h.2 S β φ w vs h1 h2 h3 h4).mono fun _ _ ⟨v,r,o,e,hr,h5,h6⟩ => ⟨v,r,o,e,hR r o hr,h5,h6⟩⟩
end Abs
namespace Abs.Y
open Go Go.Proofs Abs
set_option maxRecDepth 100000

@[reducible] def D.bytes (c : List Int) : D:=.slice (c.map (.int .u8))
@[reducible] def curB (code : List Int) (at_ : Nat) (seed : Int) : AO:=.box 79 [.d (D.bytes code),.d (.int .i64 (at_ : Nat)),.d (.int .u64 seed)]
@[reducible] def curO (code : List Int) (at_ : Nat) (seed : Int) : List (Nat × AO):=[(0,curB code at_ seed)]
structure CodeOK (code : List Int) : Prop where
 len : code.length<=1048576
 byte : ∀ i,0<=code.getD i 0∧code.getD i 0 < 256
structure CurOK (at_ : Nat) (seed : Int) : Prop where
 at_ : at_<=1099511627776
 seed : 0<=seed∧seed < 18446744073709551616
theorem el_u8 {xs : List Int} {i : Nat} (h : i < xs.length) : el (xs.map (.int .u8)) i=.int .u8 (xs.getD i 0):=el_map (f:=D.int .u8) 0 h
def seedN (seed b : Int) : Int:=IntKind.u64.wrap (IntKind.u64.wrap (IntKind.u64.wrap (seed * 6364136223846793005) + IntKind.u64.wrap b) + 337411)
theorem wrap_u64 (n : Int) : 0<=IntKind.u64.wrap n∧IntKind.u64.wrap n < 18446744073709551616:=by
 simp only [IntKind.wrap,IntKind.signed,IntKind.bits]
 simp; omega
theorem seedN_bd (s b : Int) : 0<=seedN s b∧seedN s b < 18446744073709551616:=wrap_u64 _
theorem bitV_and_u64 (x : Int) : 0<=bitV .and .u64 x 255∧bitV .and .u64 x 255<=255:=by
 have h : (BitVec.ofInt 64 x &&& BitVec.ofInt 64 255).toNat<=255:=by
  rw [BitVec.toNat_and]; exact Nat.and_le_right
 have e : bitV .and .u64 x 255=IntKind.wrap .u64 ((BitVec.ofInt 64 x &&& BitVec.ofInt 64 255).toNat : Nat):=rfl
 generalize (BitVec.ofInt 64 x &&& BitVec.ofInt 64 255).toNat=n at *
 rw [e]
 simp only [IntKind.wrap,IntKind.signed,IntKind.bits]
 simp; omega
def drawX (s : Int) : Int:=IntKind.i64.wrap (bitV .and .u64 (s.fdiv (2 ^ min (Int.toNat 40) 64)) 255)
theorem drawX_bd (s : Int) : 0<=drawX s∧drawX s<=255:=by
 unfold drawX
 have h:=bitV_and_u64 (s.fdiv (2 ^ min (Int.toNat 40) 64))
 rw [wrap_of (by omega)]
 omega
theorem next_ok {code : List Int} (hc : CodeOK code) {at_ : Nat} {seed : Int} (h : CurOK at_ seed) : ∃ x seed',0<=x∧x<=255∧0<=seed'∧seed' < 18446744073709551616 ∧
 CtrM Try.prog 127 [.p 0 0] (curO code at_ seed) [0] true (.d (.int .i64 x)) (curO code (at_ + 1) seed'):=by
 have hl:=hc.len
 have hb:=hc.byte at_
 obtain ⟨ha,hs⟩:=h
 by_cases hlt : at_ < code.length
 . have hei:=el_u8 hlt
   have he2 : (at_ : Int) + 1=((at_ + 1 : Nat) : Int):=by omega
   generalize code.getD at_ 0=b at *
   refine ⟨b,seedN seed b,hb.1,by omega,(seedN_bd _ _).1,(seedN_bd _ _).2,?_⟩
   refine CtrM.of (n:=62) (rs:=[.tmp 2]) Try.func127 rfl rfl Try.ntmps127 rfl rfl (by kernel_rfl) Try.checked.mixed ?_; intro u
   simp (disch:=first | omega | decide +kernel) only [curO,curB,D.bytes,hei,setL,he2,go_sem,Qa,Qb,Qc,Qd,Qe,↓reduceIte,reduceCtorEq,Qf,Qg,Qh]
   (repeat' (first | ((first | (refine gsel_split (fun q' => ?_) (fun q' => ?_)<;>(have h':=q')<;>(try simp only [za1,za2,Ba,Bb,za3,ne_eq,za4,za5,za6,Ia,Ib,Ic,Ie,Da,Bc,Bh,Be,za7,za8] at h')<;>try (exfalso; omega)) | (have q':=trivial; first | refine hE _ _ ret_ne ?_ | refine hE _ _ exit_ne ?_))<;>(try simp (disch:=first | omega | decide +kernel) only [q',D.bytes,hei,setL,he2,Int.toNat_natCast,go_sem,Qa,Qb,Qc,Qd,Qe,↓reduceIte,reduceCtorEq,Qf,Qg,Qh])<;>clear q') | refine hN _ ?_ ?_ Wk.kk | with_reducible refine And.intro ?_ ?_ | with_reducible omega | exact ok_ints | exact cells_ints | exact no_mem | with_reducible exact plain_ints | (refine le_maxLen ?_; omega) | (refine za9 ⟨?_,?_⟩) | (simp only [go_sem,Qc,Qb,zb1,zb2,forall_eq]; done)))
   all_goals (first | omega | exact retM_ds rfl rfl rfl rfl)
 . have he2 : (at_ : Int) + 1=((at_ + 1 : Nat) : Int):=by omega
   refine ⟨drawX (seedN seed 0),seedN seed 0,(drawX_bd _).1,(drawX_bd _).2,(seedN_bd _ _).1,(seedN_bd _ _).2,?_⟩
   refine CtrM.of (n:=62) (rs:=[.tmp 2]) Try.func127 rfl rfl Try.ntmps127 rfl rfl (by kernel_rfl) Try.checked.mixed ?_; intro u
   simp (disch:=first | omega | decide +kernel) only [curO,curB,D.bytes,setL,he2,go_sem,Qa,Qb,Qc,Qd,Qe,↓reduceIte,reduceCtorEq,Qf,Qg,Qh]
   (repeat' (first | ((first | (refine gsel_split (fun q' => ?_) (fun q' => ?_)<;>(have h':=q')<;>(try simp only [za1,za2,Ba,Bb,za3,ne_eq,za4,za5,za6,Ia,Ib,Ic,Ie,Da,Bc,Bh,Be,za7,za8] at h')<;>try (exfalso; omega)) | (have q':=trivial; first | refine hE _ _ ret_ne ?_ | refine hE _ _ exit_ne ?_))<;>(try simp (disch:=first | omega | decide +kernel) only [q',D.bytes,setL,he2,Int.toNat_natCast,go_sem,Qa,Qb,Qc,Qd,Qe,↓reduceIte,reduceCtorEq,Qf,Qg,Qh])<;>clear q') | refine hN _ ?_ ?_ Wk.kk | with_reducible refine And.intro ?_ ?_ | with_reducible omega | exact ok_ints | exact cells_ints | exact no_mem | with_reducible exact plain_ints | (refine le_maxLen ?_; omega) | (refine za9 ⟨?_,?_⟩) | (simp only [go_sem,Qc,Qb,zb1,zb2,forall_eq]; done)))
   all_goals (first | omega | exact retM_ds rfl rfl rfl rfl)
def Draws (f : FuncId) (xs : List AV) (k : Nat) (Q : AV->Prop) (code : List Int) : Prop:=∀ at_ seed,at_ + k<=1099511627776->0<=seed->seed < 18446744073709551616 ->
 CtrR Try.prog f (.p 0 0 :: xs) (curO code at_ seed) [0] true fun r oo => ∃ at' seed',at_<=at'∧at'<=at_ + k∧0<=seed'∧seed' < 18446744073709551616∧oo=curO code at' seed'∧Q r
theorem callX_draw {N f cavs st dst K} (J : Nat) {xs k Q code at_ seed} (hs : Draws f xs k Q code) (hp : passM Try.prog (delL [J] st.o) (nth [J]) true cavs (.p 0 0 :: xs)) (ho : lkn J st.o=some ((curB code at_ seed).ren (nth [J])))
 (hd : dstB N dst) (h1 : at_ + k<=1099511627776) (h2 : 0<=seed) (h3 : seed < 18446744073709551616)
 (hK : ∀ r at' seed',at_<=at'->at'<=at_ + k->0<=seed'->seed' < 18446744073709551616->Q r->K (impM st dst (nth [J]) [] r (curO code at' seed'))) : callX Try.prog N f cavs dst K st :=
 callX_rel [J] [J] [] (hs at_ seed h1 h2 h3) hp ⟨ho,trivial⟩ (by simp [namesI,keysO,nth]) hd fun r oo ⟨at',seed',a1,a2,a3,a4,e,hQ⟩ => by
  subst e; exact ⟨by simp [namesOK,keysO,nth],hK r at' seed' a1 a2 a3 a4 hQ⟩
theorem retR_draw {t : Nat} {u : Nat->Value} {st : St} {code : List Int} {at_ k : Nat} {Q : AV->Prop} {at' : Nat} {seed' : Int} {x : D} (h : lk t st.s=some (.d x)) (ho : lk 0 st.o=some (curB code at' seed')) (hk : lk 1000000000 st.s=some (.hdr 0 (u 0)))
 (h1 : at_<=at') (h2 : at'<=at_ + k) (h3 : 0<=seed') (h4 : seed' < 18446744073709551616) (hQ : Q (.d x)) :
 retR Try.prog [.tmp t] u [0] true (fun r oo => ∃ at' seed',at_<=at'∧at'<=at_ + k∧0<=seed'∧seed' < 18446744073709551616∧oo=curO code at' seed'∧Q r) .ret st :=
 ⟨_,_,⟨at',seed',h1,h2,h3,h4,rfl,hQ⟩,retM_ds h ho hk rfl⟩
@[reducible] def QI (Q : Int->Prop) : AV->Prop:=fun r => ∃ x,r=.d (.int .i64 x)∧Q x
theorem next_draws {code : List Int} (hc : CodeOK code) : Draws 127 [] 1 (QI fun x => 0<=x∧x<=255) code:=fun at_ seed h1 h2 h3 => by
 obtain ⟨x,s,a1,a2,a3,a4,h⟩:=next_ok hc (at_:=at_) (seed:=seed) ⟨by omega,h2,h3⟩
 exact h.rel.mono fun r o ⟨e1,e2⟩ => ⟨at_ + 1,s,by omega,by omega,a3,a4,e2,x,e1,a1,a2⟩
end Abs.Y
