/- What functions of this program compute, over plain data. No condition. -/
import Derived.Test.YtkccabajcdphkaaGreatL2
import Derived.Test.YtkccabajcdphkaaGreatK2
import Derived.Test.YtkccabajcdphkaaGreatAbsBox
import Derived.Test.YtkccabajcdphkaaGreatAbsAny8
set_option linter.all false
open Nat renaming reduceEqDiff -> Qa, reduceLT -> Qb, reduceAdd -> Qc, reduceMul -> Qd, reduceSub -> Qe, reduceLeDiff -> Qf, reduceSubDiff -> Qg, reduceBEq -> Qh
open Bool renaming not_eq_true' -> Ba, not_eq_false' -> Bb, and_eq_true -> Bc, or_eq_true -> Bh, or_eq_false_iff -> Be
open Int renaming ofNat_lt -> Ia, ofNat_le -> Ib, not_lt -> Ic, not_le -> Ie
open Decidable renaming not_not -> Da
namespace Abs.Y
open Go Go.Proofs Abs
set_option maxRecDepth 100000

def correctI (v : Int) (cs : List (List Int)) (steps : List Step) (k : Nat) : Bool :=
 xe6 v (steps.getD k Step.z).c &&
 (if (steps.getD k Step.z).l = -1 then decide ((steps.getD k Step.z).p = 0) && (decide (0 <= (steps.getD k Step.z).r) && decide ((steps.getD k Step.z).r <= cs.length - 1)) && decide (cs.getD (steps.getD k Step.z).r.toNat [] = (steps.getD k Step.z).c)
  else zc3 v steps k (steps.getD k Step.z).l &&
   (if (steps.getD k Step.z).r = -1 then decide ((steps.getD k Step.z).p = 0) && subI (steps.getD (steps.getD k Step.z).l.toNat Step.z).c (steps.getD k Step.z).c
    else (zc3 v steps k (steps.getD k Step.z).r && (decide (1<=(steps.getD k Step.z).p) && decide ((steps.getD k Step.z).p<=v))) &&
     ((yk3 (steps.getD (steps.getD k Step.z).l.toNat Step.z).c (steps.getD (steps.getD k Step.z).r.toNat Step.z).c (steps.getD k Step.z).p).isSome &&
       decide (optL (yk3 (steps.getD (steps.getD k Step.z).l.toNat Step.z).c (steps.getD (steps.getD k Step.z).r.toNat Step.z).c (steps.getD k Step.z).p)=(steps.getD k Step.z).c))))
end Abs.Y

namespace Abs.Y
open Go Go.Proofs Abs
set_option maxRecDepth 100000

end Abs.Y

namespace Abs.Y
open Go Go.Proofs Abs
set_option maxRecDepth 100000

def wrongI (v : Int) (cs : List (List Int)) (steps : List Step) : Int:=idxR (fun k => !correctI v cs steps k) steps.length
structure Sz (cs : List (List Int)) (steps : List Step) : Prop where
 hl : steps.length<=1048576
 hs : ∀ j,(steps.getD j Step.z).c.length<=1048576
 hcl : cs.length<=1048576
 hc : ∀ j,(cs.getD j []).length<=1048576
def askedI (v : Int) (cs : List (List Int)) (steps : List Step) : Bool:=decide (steps.length<=200) && xz5 v cs
def goodI (v : Int) (cs : List (List Int)) (steps : List Step) : Bool:=askedI v cs steps && decide (wrongI v cs steps < 0)
end Abs.Y

namespace Abs.Y
open Go Go.Proofs Abs
set_option maxRecDepth 100000

def stepF (s : Step) (left : Int) : Int:=szI s.c left
end Abs.Y

namespace Abs.Y
open Go Go.Proofs Abs
set_option maxRecDepth 100000

def cmpI (x y : Int) : Int:=if x < y then -1 else if y < x then 1 else 0
def orI (x y : Int) : Int:=if x ≠ 0 then x else y
end Abs.Y

namespace Abs.Y
open Go Go.Proofs Abs
set_option maxRecDepth 100000

def zi4 (a b : Int) : Int:=orI (cmpI (absI a) (absI b)) (cmpI b a)
def lexI : List Int->List Int->Int
 | [],[] => 0
 | [],_ :: _ => -1
 | _ :: _,[] => 1
 | x :: r,y :: s => if zi4 x y ≠ 0 then zi4 x y else lexI r s
def zy4 (a b : List Int) : Int:=orI (cmpI a.length b.length) (lexI a b)
theorem zm2 (l : Int) (h : -4611686018427387900<=l∧l<=4611686018427387900) : Ctr Tryz.prog 152 [.int .i64 l] false (.d (.int .i64 (if l < 0 then -2 * l + 1 else 2 * l))) []:=by
 refine Ctr.of (n:=10) (rs:=[.tmp 2]) Tryz.func152 rfl rfl Tryz.ntmps152 rfl rfl (by kernel_rfl) Tryz.checked.mixed ?_
 simp (disch:=first | omega | decide +kernel) only [go_sem,Qa,Qb,Qc,Qd,Qe,↓reduceIte,reduceCtorEq,Qf,Qg,Qh]
 (repeat' (first | ((first | (refine xa0 ?_ ?_<;>intro q'<;>(have h':=q')<;>(try simp only [zz] at h')<;>try (exfalso; omega)) | (have q':=trivial; first | refine hE _ _ xa5 ?_ | refine hE _ _ xa2 ?_))<;>(try simp (disch:=first | omega | decide +kernel) only [q',go_sem,Qa,Qb,Qc,Qd,Qe,↓reduceIte,reduceCtorEq,Qf,Qg,Qh])<;>clear q') | (with_reducible first | refine And.intro ?_ ?_ | omega) | (refine xa1 ?_; omega)))
 . rw [if_pos h']
 . rw [if_neg (by omega)]
def Sm (c : List Int) : Prop:=∀ x ∈ c,-4611686018427387900<=x∧x<=4611686018427387900
theorem ye8 {a b : Int} (ha : -4611686018427387900<=a∧a<=4611686018427387900) (hb : -4611686018427387900<=b∧b<=4611686018427387900) :
 (zi4 a b < 0↔(if a < 0 then -2 * a + 1 else 2 * a) < (if b < 0 then -2 * b + 1 else 2 * b))∧(zi4 a b=0↔a=b):=by
 unfold zi4 orI cmpI
 rw [yr8 (by omega),yr8 (by omega)]
 repeat' split
 all_goals omega
def befI (a b : List Int) : Bool:=decide (zy4 a b < 0)
theorem zs0 : ∀ {a b : List Int} {i : Nat},a.length=b.length->i < a.length->(∀ j,j < i->a.getD j 0=b.getD j 0)->Sm a->Sm b->a.getD i 0 ≠ b.getD i 0->lexI a b=zi4 (a.getD i 0) (b.getD i 0)
 | x :: r, y :: s, 0, hl, hi, hj, sa, sb, hne => by
   rw [lexI,if_pos]
   . rfl
   . intro h0
     exact hne ((ye8 (sa x (by simp)) (sb y (by simp))).2.1 h0)
 | x :: r, y :: s, i + 1, hl, hi, hj, sa, sb, hne => by
   have h0:=hj 0 (by omega)
   simp only [List.getD_cons_zero] at h0
   rw [lexI,if_neg (by simpa using (ye8 (sa x (by simp)) (sb y (by simp))).2.2 h0)]
   exact zs0 (by simpa using hl) (by simpa using hi) (fun j hj' => by simpa using hj (j + 1) (by omega)) (fun z hz => sa z (by simp [hz])) (fun z hz => sb z (by simp [hz])) hne
 | [],_,_,_,hi,_,_,_,_ => by simp at hi
 | _ :: _,[],_,hl,_,_,_,_,_ => by simp at hl
theorem yp1 : ∀ {a : List Int},Sm a->lexI a a=0
 | [],_ => rfl
 | x :: r, sa => by
   rw [lexI,if_neg (by simpa using (ye8 (sa x (by simp)) (sa x (by simp))).2.2 rfl)]
   exact yp1 fun z hz => sa z (by simp [hz])
theorem zs9 (x y : Int) : (cmpI x y < 0↔x < y)∧(cmpI x y=0↔x=y):=by
 unfold cmpI
 repeat' split
 all_goals omega
theorem zo2 {a b : List Int} (h : ¬ (a.length : Int)=b.length) : befI a b=decide ((a.length : Int) < b.length):=by
 have hc:=zs9 a.length b.length
 unfold befI zy4 orI
 rw [if_pos (fun h0 => h (hc.2.1 h0))]
 exact decide_eq_decide.2 hc.1
theorem yz2 {a b : List Int} (h : (a.length : Int)=b.length) : befI a b=decide (lexI a b < 0):=by
 have hc:=zs9 a.length b.length
 unfold befI zy4 orI
 rw [if_neg (by simpa using hc.2.2 h)]
theorem l2Before_ok (a b : List Int) (ha : a.length<=4294967296) (hb : b.length<=4294967296) (sa : Sm a) (sb : Sm b) : Ctr Tryz.prog 137 [.ints a,.ints b] false (.d (.bool (befI a b))) []:=by
 refine Ctr.of (n:=42) (rs:=[.tmp 4]) Tryz.func137 rfl rfl Tryz.ntmps137 rfl rfl (by kernel_rfl) Tryz.checked.mixed ?_
 simp (disch:=first | omega | decide +kernel) only [D.ints,go_sem,Qa,Qb,Qc,Qd,Qe,↓reduceIte,reduceCtorEq,Qf,Qg,Qh]
 (repeat' (first | ((first | (refine xa0 ?_ ?_<;>intro q'<;>(have h':=q')<;>(try simp only [zz] at h')) | (have q':=trivial; first | refine hE _ _ xa5 ?_ | refine hE _ _ xa2 ?_))<;>(try simp (disch:=first | omega | decide +kernel) only [q',go_sem,Qa,Qb,Qc,Qd,Qe,↓reduceIte,reduceCtorEq,Qf,Qg,Qh])<;>clear q') | refine hN _ ?_ ?_ Wk.kk | (with_reducible first | refine And.intro ?_ ?_ | omega) | exact xb8 | exact xa8 | exact xa6 | with_reducible exact xa7 | (refine xa1 ?_; omega) | (refine za9 ⟨?_,?_⟩) | (simp only [go_sem,Qc,Qb,zb1,zb2,forall_eq]; done)))
 . rw [zo2 h']
 . refine Ok.loopC [41,40,39,38,37,36,35,34,33,32,31,30,29,28,27,26,25,24,23,22,21,20,19,18,17,16,15,14,13,12,11,10,9,8,7,6,5,4,3,2] (fun i => [(5,.d (.int .i64 (i : Nat)))]) a.length (fun i => ∀ j,j < i->a.getD j 0=b.getD j 0) (by simp) (Wk.kk) ?_
   intro R i hN hE hi hI
   by_cases hlt : i < a.length
   . have ka:=sa _ (xc0 (z:=(0 : Int)) hlt)
     have kb:=sb _ (xc0 (z:=(0 : Int)) (show i < b.length by omega))
     have c1:=zm2 (a.getD i 0) ka
     have c2:=zm2 (b.getD i 0) kb
     simp (disch:=first | omega | decide +kernel) only [D.ints,go_sem,Qa,Qb,Qc,Qd,Qe,↓reduceIte,reduceCtorEq,Qf,Qg,Qh]
     (repeat' (first | ((first | (refine xa0 ?_ ?_<;>intro q'<;>(have h':=q')<;>(try simp only [zz] at h')) | (have q':=trivial; first | refine xa3 (c1) rfl (by decide) ?_ | refine xa4 (c1) rfl ?_ | refine xa3 (c2) rfl (by decide) ?_ | refine xa4 (c2) rfl ?_ | refine hE _ _ xa5 ?_ | refine hE _ _ xa2 ?_))<;>(try simp (disch:=first | omega | decide +kernel) only [q',D.ints,go_sem,Qa,Qb,Qc,Qd,Qe,↓reduceIte,reduceCtorEq,Qf,Qg,Qh])<;>clear q') | refine hN _ ?_ ?_ Wk.kk | (with_reducible first | refine And.intro ?_ ?_ | omega) | exact xb8 | exact xa8 | exact xa6 | with_reducible exact xa7 | (refine xa1 ?_; omega) | (refine za9 ⟨?_,?_⟩) | (simp only [go_sem,Qc,Qb,zb1,zb2,forall_eq]; done)))
     . rename_i hne
       rw [yz2 (by omega),zs0 (by omega) hlt hI sa sb (by assumption)]
       rw [decide_eq_decide.2 (ye8 ka kb).1]
     . exact xi8 hI (by assumption)
   . simp (disch:=first | omega | decide +kernel) only [D.ints,go_sem,Qa,Qb,Qc,Qd,Qe,↓reduceIte,reduceCtorEq,Qf,Qg,Qh]
     (repeat' (first | ((first | (refine xa0 ?_ ?_<;>intro q'<;>(have h':=q')<;>(try simp only [zz] at h')) | (have q':=trivial; first | refine hE _ _ xa5 ?_ | refine hE _ _ xa2 ?_))<;>(try simp (disch:=first | omega | decide +kernel) only [q',go_sem,Qa,Qb,Qc,Qd,Qe,↓reduceIte,reduceCtorEq,Qf,Qg,Qh])<;>clear q') | refine hN _ ?_ ?_ Wk.kk | (with_reducible first | refine And.intro ?_ ?_ | omega) | exact xb8 | exact xa8 | exact xa6 | with_reducible exact xa7 | (refine xa1 ?_; omega) | (refine za9 ⟨?_,?_⟩) | (simp only [go_sem,Qc,Qb,zb1,zb2,forall_eq]; done)))
     have e : a=b:=zf0 0 (by omega) fun j hj => hI j (by omega)
     rw [yz2 (by omega),← e,yp1 sa]
     rfl
theorem yq9 {a : List Int} (sa : Sm a) : befI a a=false:=by rw [yz2 rfl,yp1 sa]; rfl
end Abs.Y

namespace Abs.Y
open Go Go.Proofs Abs
set_option maxRecDepth 100000

structure At (list : List (List Int)) (c : List Int) (k : Nat) : Prop where
 le : k<=list.length
 lo : ∀ j,j < k->befI (list.getD j []) c=true
 hi : ∀ j,k<=j->j < list.length->befI (list.getD j []) c=false
set_option maxHeartbeats 4000000 in
theorem l2Place_ok (list : List (List Int)) (c : List Int) (k : Nat) (hl : list.length<=4294967296) (hc : c.length<=4294967296) (sc : Sm c) (hx : ∀ x ∈ list,x.length<=4294967296∧Sm x) (hk : At list c k) :
 Ctr Tryz.prog 119 [.slice (list.map D.ints),.ints c] false (.d (.int .i64 (k : Nat))) []:=by
 refine Ctr.of (n:=27) (rs:=[.tmp 4]) Tryz.func119 rfl rfl Tryz.ntmps119 rfl rfl (by kernel_rfl) Tryz.checked.mixed ?_
 simp (disch:=first | omega | decide +kernel) only [go_sem,Qa,Qb,Qc,Qd,Qe,↓reduceIte,reduceCtorEq,Qf,Qg,Qh]
 (repeat' (first | ((first | (refine xa0 ?_ ?_<;>intro q'<;>(have h':=q')<;>(try simp only [zz] at h')<;>try (exfalso; omega)) | (have q':=trivial; first | refine hE _ _ xa5 ?_ | refine hE _ _ xa2 ?_))<;>(try simp (disch:=first | omega | decide +kernel) only [q',go_sem,Qa,Qb,Qc,Qd,Qe,↓reduceIte,reduceCtorEq,Qf,Qg,Qh])<;>clear q') | (with_reducible first | refine And.intro ?_ ?_ | omega) | (refine xa1 ?_; omega)))
 refine Ok.loopU [25,24,23,22,21,20,19,18,17,16,15,14,13,12,11,10,9,8,7,6,5,3,2] (fun (p : Nat × Nat) => [(5,.d (.int .i64 (p.1 : Nat))),(6,.d (.int .i64 (p.2 : Nat)))]) (fun _ => []) (fun n p => n=p.2 - p.1∧p.1<=k∧k<=p.2∧p.2<=list.length) list.length (0,list.length)
  ⟨by simp,by simp,hk.le,Nat.le_refl _⟩ (Wk.kk) ?_
 rintro R n ⟨f,t⟩ hN hE ⟨hn,h1,h2,h3⟩
 simp only at hn h1 h2 h3
 have hm : ((f : Int) + (t : Int)).tdiv 2=(((f + t) / 2 : Nat) : Int):=by rw [Int.tdiv_eq_ediv_of_nonneg (by omega)]; omega
 have hmt : ((((f + t) / 2 : Nat) : Int)).toNat=(f + t) / 2:=by omega
 by_cases hlt : f < t
 . have hml : (f + t) / 2 < list.length:=by omega
   have hx1:=hx _ (xc0 (z:=([] : List Int)) hml)
   have c1:=l2Before_ok (list.getD ((f + t) / 2) []) c hx1.1 hc hx1.2 sc
   simp (disch:=first | omega | decide +kernel) only [hm,go_sem,Qa,Qb,Qc,Qd,Qe,↓reduceIte,reduceCtorEq,Qf,Qg,Qh]
   (repeat' (first | ((first | (refine xa0 ?_ ?_<;>intro q'<;>(have h':=q')<;>(try simp only [zz] at h')<;>try (exfalso; omega)) | (have q':=trivial; first | refine xa3 (c1) rfl (by decide) ?_ | refine xa4 (c1) rfl ?_ | refine hE _ _ xa5 ?_ | refine hE _ _ xa2 ?_))<;>(try simp (disch:=first | omega | decide +kernel) only [q',hm,hmt,go_sem,Qa,Qb,Qc,Qd,Qe,↓reduceIte,reduceCtorEq,Qf,Qg,Qh])<;>clear q') | (with_reducible first | refine And.intro ?_ ?_ | omega) | (refine xa1 ?_; omega)))
   . have hkm : (f + t) / 2 < k:=by
      apply Nat.lt_of_not_le
      intro h
      rw [hk.hi _ h hml] at h'
      cases h'
     exact hN (t - ((f + t) / 2 + 1)) ((f + t) / 2 + 1,t) _ (by omega) ⟨rfl,hkm,h2,h3⟩ (Wk.kk)
   . have hkm : k<=(f + t) / 2:=by
      apply Nat.le_of_not_lt
      intro h
      rw [hk.lo _ h] at h'
      cases h'
     exact hN ((f + t) / 2 - f) (f,(f + t) / 2) _ (by omega) ⟨rfl,h1,hkm,by omega⟩ (Wk.kk)
 . simp (disch:=first | omega | decide +kernel) only [hm,go_sem,Qa,Qb,Qc,Qd,Qe,↓reduceIte,reduceCtorEq,Qf,Qg,Qh]
   (repeat' (first | ((first | (refine xa0 ?_ ?_<;>intro q'<;>(have h':=q')<;>(try simp only [zz] at h')<;>try (exfalso; omega)) | (have q':=trivial; first | refine hE _ _ xa5 ?_ | refine hE _ _ xa2 ?_))<;>(try simp (disch:=first | omega | decide +kernel) only [q',hm,hmt,go_sem,Qa,Qb,Qc,Qd,Qe,↓reduceIte,reduceCtorEq,Qf,Qg,Qh])<;>clear q') | (with_reducible first | refine And.intro ?_ ?_ | omega) | (refine xa1 ?_; omega)))
   rw [show f=k by omega]
end Abs.Y

namespace Abs.Y
open Go Go.Proofs Abs
set_option maxRecDepth 100000

def keyI (x : Int) : Int:=if x < 0 then -2 * x + 1 else 2 * x
theorem keyI_inj {x y : Int} (h : keyI x=keyI y) : x=y:=by
 unfold keyI at h
 split at h<;>split at h<;>omega
def lexB : List Int->List Int->Bool
 | x :: r,y :: s => decide (keyI x < keyI y) || (decide (x=y) && lexB r s)
 | _,_ => false
theorem zw7 : ∀ {a b : List Int},a.length=b.length->Sm a->Sm b->((lexI a b < 0)↔lexB a b=true)
 | [],[],_,_,_ => by simp [lexI,lexB]
 | x :: r, y :: s, hl, sa, sb => by
   have h:=ye8 (sa x (by simp)) (sb y (by simp))
   have ih:=zw7 (a:=r) (b:=s) (by simpa using hl) (fun z hz => sa z (by simp [hz])) (fun z hz => sb z (by simp [hz]))
   rw [lexI,lexB,Bh,Bc,decide_eq_true_eq,decide_eq_true_eq]
   by_cases he : x=y
   . subst he
     rw [if_neg (by simpa using h.2.2 rfl),ih]
     constructor
     . exact fun h => .inr ⟨rfl,h⟩
     . rintro (h | h)
       . omega
       . exact h.2
   . rw [if_pos fun h0 => he (h.2.1 h0)]
     have h1 : zi4 x y < 0↔keyI x < keyI y:=h.1
     rw [h1]
     constructor
     . exact .inl
     . rintro (h | h)
       . exact h
       . exact absurd h.1 he
 | [],_ :: _,hl,_,_ => by simp at hl
 | _ :: _,[],hl,_,_ => by simp at hl
theorem yu4 : ∀ {a b c : List Int},lexB a b=true->lexB b c=true->lexB a c=true
 | x :: r, y :: s, z :: t, h1, h2 => by
   rw [lexB,Bh,Bc,decide_eq_true_eq,decide_eq_true_eq] at *
   rcases h1 with h1 | ⟨rfl,h1⟩<;>rcases h2 with h2 | ⟨rfl,h2⟩
   . exact .inl (by omega)
   . exact .inl h1
   . exact .inl h2
   . exact .inr ⟨rfl,yu4 h1 h2⟩
 | [],_,_,h,_ => by simp [lexB] at h
 | _ :: _,[],_,h,_ => by simp [lexB] at h
 | _ :: _,_ :: _,[],_,h => by simp [lexB] at h
theorem yu5 : ∀ {a b : List Int},a.length=b.length->lexB a b=true∨lexB b a=true∨a=b
 | [],[],_ => .inr (.inr rfl)
 | x :: r, y :: s, hl => by
   rw [lexB,lexB]
   simp only [Bh,Bc,decide_eq_true_eq]
   rcases Int.lt_trichotomy (keyI x) (keyI y) with h | h | h
   . exact .inl (.inl h)
   . obtain rfl:=keyI_inj h
     rcases yu5 (a:=r) (b:=s) (by simpa using hl) with h | h | h
     . exact .inl (.inr ⟨rfl,h⟩)
     . exact .inr (.inl (.inr ⟨rfl,h⟩))
     . exact .inr (.inr (by rw [h]))
   . exact .inr (.inl (.inl h))
 | [],_ :: _,hl => by simp at hl
 | _ :: _,[],hl => by simp at hl
theorem xz3 {a b : List Int} (sa : Sm a) (sb : Sm b) : befI a b=true↔a.length < b.length∨(a.length=b.length∧lexB a b=true):=by
 by_cases h : (a.length : Int)=b.length
 . rw [yz2 h,decide_eq_true_eq,zw7 (by omega) sa sb]
   constructor
   . exact fun h' => .inr ⟨by omega,h'⟩
   . rintro (h' | h')
     . omega
     . exact h'.2
 . rw [zo2 h,decide_eq_true_eq]
   constructor
   . exact fun h' => .inl (by omega)
   . rintro (h' | h')
     . omega
     . omega
theorem zg0 {a b c : List Int} (sa : Sm a) (sb : Sm b) (sc : Sm c) (h1 : befI a b=true) (h2 : befI b c=true) : befI a c=true:=by
 rw [xz3 sa sb] at h1
 rw [xz3 sb sc] at h2
 rw [xz3 sa sc]
 rcases h1 with h1 | h1<;>rcases h2 with h2 | h2
 . exact .inl (by omega)
 . exact .inl (by omega)
 . exact .inl (by omega)
 . exact .inr ⟨by omega,yu4 h1.2 h2.2⟩
theorem bef_total {a b : List Int} (sa : Sm a) (sb : Sm b) : befI a b=true∨befI b a=true∨a=b:=by
 rw [xz3 sa sb,xz3 sb sa]
 rcases Nat.lt_trichotomy a.length b.length with h | h | h
 . exact .inl (.inl h)
 . rcases yu5 h with h' | h' | h'
   . exact .inl (.inr ⟨h,h'⟩)
   . exact .inr (.inl (.inr ⟨h.symm,h'⟩))
   . exact .inr (.inr h')
 . exact .inr (.inl (.inl h))
def Srt (l : List (List Int)) : Prop:=l.Pairwise (fun a b => befI a b=true)∧∀ x ∈ l,Sm x
theorem zj6 : ∀ {l1 l2 : List (List Int)},Srt l1->Srt l2->(∀ x,x ∈ l1↔x ∈ l2)->l1=l2
 | [],[],_,_,_ => rfl
 | [],y :: s,_,_,h => absurd ((h y).2 (by simp)) (by simp)
 | x :: r,[],_,_,h => absurd ((h x).1 (by simp)) (by simp)
 | x :: r, y :: s, g1, g2, h => by
   have p1:=List.pairwise_cons.1 g1.1
   have p2:=List.pairwise_cons.1 g2.1
   have sx:=g1.2 x (by simp)
   have sy:=g2.2 y (by simp)
   have no : ∀ {a b : List Int},Sm a->Sm b->befI a b=true->befI b a=true->False:=fun sa sb h1 h2 => by
    have:=zg0 sa sb sa h1 h2
    rw [yq9 sa] at this
    cases this
   have hxy : x=y:=by
    rcases List.mem_cons.1 ((h x).1 (by simp)) with e | hx
    . exact e
    . rcases List.mem_cons.1 ((h y).2 (by simp)) with e | hy
      . exact e.symm
      . exact (no sy sx (p2.1 x hx) (p1.1 y hy)).elim
   subst hxy
   rw [zj6 (l1:=r) (l2:=s) ⟨p1.2,fun z hz => g1.2 z (by simp [hz])⟩ ⟨p2.2,fun z hz => g2.2 z (by simp [hz])⟩ fun z => ?_]
   constructor
   . intro hz
     rcases List.mem_cons.1 ((h z).1 (by simp [hz])) with rfl | h'
     . have:=p1.1 z hz; rw [yq9 sx] at this; cases this
     . exact h'
   . intro hz
     rcases List.mem_cons.1 ((h z).2 (by simp [hz])) with rfl | h'
     . have:=p2.1 z hz; rw [yq9 sx] at this; cases this
     . exact h'
end Abs.Y

namespace Abs.Y
open Go Go.Proofs Abs
set_option maxRecDepth 100000

def tlit (x : Nat) (l : Int) : Bool:=x.testBit (l.natAbs - 1) == decide (0 < l)
def tcl (x : Nat) (c : List Int) : Bool:=c.any (tlit x)
def tmod (cs : List (List Int)) (x : Nat) : Bool:=!(cs.any fun c => !(tcl x c))
def tsat (u : Nat) (cs : List (List Int)) : Bool:=(List.range (2 ^ u)).any (tmod cs)
def timp (u : Nat) (cs : List (List Int)) (c : List Int) : Bool:=!(tsat u (cs++c.map fun l => [-l]))
theorem tlit_neg {x : Nat} {l : Int} (h : l ≠ 0) : tlit x (-l)=!(tlit x l):=by
 unfold tlit
 rw [Int.natAbs_neg]
 by_cases h0 : 0 < l
 . rw [decide_eq_false (show ¬ 0 < -l by omega),decide_eq_true h0]
   cases x.testBit (l.natAbs - 1)<;>rfl
 . rw [decide_eq_true (show 0 < -l by omega),decide_eq_false h0]
   cases x.testBit (l.natAbs - 1)<;>rfl
theorem tmod_iff {x : Nat} {cs : List (List Int)} : tmod cs x=true↔∀ c ∈ cs,tcl x c=true:=by
 simp only [tmod,Ba,List.any_eq_false,Ba,Bool.not_eq_false]
theorem zs1 {c : List Int} {j : Nat} (hj : j < c.length) : c.getD j 0=c[j]:=by simp [List.getD_eq_getElem?_getD,hj]
theorem ok_of_good {u : Int} {c : List Int} (hu : xk1 u=true) (g : Good c) (hb : ∀ l ∈ c,(l.natAbs : Int)<=u) : xe6 u c=true:=by
 simp only [xe6,Bc,decide_eq_true_eq]
 refine ⟨hu,fun j hj => ?_⟩
 have hm : c.getD j 0 ∈ c:=xc0 hj
 have h1:=(g.2 _ hm).1
 have h2:=hb _ hm
 refine ⟨⟨h1,by omega,by omega⟩,fun h0 => ?_⟩
 have:=List.pairwise_iff_getElem.1 g.1 (j - 1) j (by omega) hj (by omega)
 rwa [← zs1,← zs1] at this
def ofI (l : List Int) : Option (List Int):=l.foldl (fun o x => o.bind fun a => zy2 a [x]) (some [])
end Abs.Y

namespace Abs.Y
open Go Go.Proofs Abs
set_option maxRecDepth 100000

def zy9 (u : Int) (a b : List Int) (v : Int) : Bool:=xe6 u a && (xe6 u b && (decide (1<=v) && decide (v<=u)))
def resI (u : Int) (a b : List Int) (v : Int) : List Int:=if zy9 u a b v then optL (yk3 a b v) else []
def resB (u : Int) (a b : List Int) (v : Int) : Bool:=zy9 u a b v && (yk3 a b v).isSome
end Abs.Y

namespace Abs
open Go Go.RowKit
theorem Ok.loopO {P : Program} {N : Nat} {c : Code} {Q : Exit->St->Prop} {st : St} (I : Nat->St->Prop) (n0 : Nat) {st0 : St} (hw : Wk N st st0) (h0 : I n0 st0) (hr : ∀ n st,I n st->Ok P N c (zu7 N I n Q) st) : Ok P N (.loop c) Q st:=by
 intro h1 h2 Z B M w0 a w ⟨β,φ,hs⟩
 refine ⟨fun n a w => ∃ st,Sim Z N B M w0 st a w∧I n st,n0,⟨st0,hw _ _ _ _ _ _ _ _ hs,h0⟩,fun n a w ⟨st',hs',hI⟩ => ?_⟩
 refine xk9 c (hr n st' hI h1 h2 Z B M w0 a w hs') fun e a w hl => ?_
 cases e with
 | normal =>
   obtain ⟨st1,⟨β1,φ1,hs1⟩,m,st2,hlt,hw2,hI2⟩:=hl
   exact ⟨m,hlt,st2,hw2 _ _ _ _ _ _ _ _ hs1,hI2⟩
 | exit id => exact hl
 | goto l => exact hl
 | ret => exact hl
 | panic ch => exact hl
 | outgrown => exact hl
theorem Ok.loopNO {P : Program} {N : Nat} {c : Code} {Q : Exit->St->Prop} {S : List (Nat × AV)} {O : List (Nat × AO)} {α : Type} (ks : List Nat) (u : Nat->α->List (Nat × AV)) (ou : Nat->α->List (Nat × AO)) (len : Nat) (I : Nat->α->Prop)
 (a0 : α) (hI : I 0 a0) (hw : Wk N ⟨S,O⟩ (xc2 ks (u 0 a0) (ou 0 a0) S O))
 (hr : ∀ (R : Exit->St->Prop) (i : Nat) (a : α),(∀ a' st,i < len->I (i + 1) a'->Wk N st (xc2 ks (u (i + 1) a') (ou (i + 1) a') S O)->R .normal st)->(∀ e st,e ≠ .normal->Q e st->R e st)->i<=len->I i a ->
  Ok P N c R (xc2 ks (u i a) (ou i a) S O)) : Ok P N (.loop c) Q ⟨S,O⟩ :=
 Ok.loopO (fun n st => ∃ i a,n=len - i∧i<=len∧I i a∧st=xc2 ks (u i a) (ou i a) S O) len hw ⟨0,a0,rfl,Nat.zero_le _,hI,rfl⟩ fun n st ⟨i,a,h1,h2,hI,h⟩ => by
  subst h
  refine hr _ i a (fun a' st hlt hI' hw' => ⟨len - (i + 1),_,by omega,hw',i + 1,a',rfl,hlt,hI',rfl⟩) (fun e st h1 h2 => ?_) h2 hI
  cases e<;>first | exact absurd rfl h1 | exact h2
theorem Ok.block {P : Program} {N id : Nat} {c : Code} {Q : Exit->St->Prop} {st : St} (h : Ok P N c (yj0 id Q) st) : Ok P N (.block id c) Q st:=fun h1 h2 Z B M w0 a w hs => by
 refine xk9 c (h h1 h2 Z B M w0 a w hs) fun e a w hl => ?_
 cases e with
 | exit id' =>
   obtain ⟨st',hs',hk⟩:=hl
   simp only [yj0] at hk
   simp only [Exit.inBlock]
   split
   . rename_i e; rw [if_pos e] at hk; exact ⟨st',hs',hk⟩
   . rename_i e; rw [if_neg e] at hk; exact ⟨st',hs',hk⟩
 | normal => exact hl
 | goto l => exact hl
 | ret => exact hl
 | panic ch => exact hl
 | outgrown => exact hl
end Abs
