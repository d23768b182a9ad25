/- What functions of this program compute, over plain data. No condition. -/
import Derived.Test.YtkccabajcdphkaaGreatP5
import Derived.Test.YtkccabajcdphkaaGreatE4
import Derived.Test.YtkccabajcdphkaaGreatK14
import Derived.Test.YtkccabajcdphkaaGreatW11
set_option linter.all false
namespace Abs.Y
open Go Go.Proofs Abs
open Nat renaming reduceEqDiff -> Qa, reduceLT -> Qb, reduceAdd -> Qc, reduceMul -> Qd, reduceSub -> Qe, reduceLeDiff -> Qf, reduceSubDiff -> Qg, reduceBEq -> Qh
open Bool renaming not_eq_true' -> Ba, not_eq_false' -> Bb, and_eq_true -> Bc, or_eq_true -> Bh, or_eq_false_iff -> Be
open Int renaming ofNat_lt -> Ia, ofNat_le -> Ib, not_lt -> Ic, not_le -> Ie
open Decidable renaming not_not -> Da
set_option maxRecDepth 100000

def xe1 (g : Chg) : Bool:=xc7 g && decide ((oddI g).length=0)
def xg6 (g : Chg) : Nat:=if xe1 g=true then finB g else 0
theorem rev_take (g : Chg) (b : Nat) (l : List (Int × Int)) (k : Nat) (h : k < l.length) : (l.reverse.take (k + 1)).foldl (rdO g) b=rdO g ((l.reverse.take k).foldl (rdO g) b) (l.getD (l.length - 1 - k) (0,0)):=by
 rw [xn7 (rdO g) b l.reverse (0,0) k (by simpa using h)]
 congr 1
 rw [List.getD_eq_getElem?_getD,List.getElem?_reverse h,List.getD_eq_getElem?_getD]
theorem zk2 {g : Chg} {v : Int} {t : List (Int × Int)} (ht : ∀ r ∈ t,0<=r.2) (b : Nat) : ∀ k,k<=t.length->(((v,-1) :: t).reverse.take k).foldl (rdO g) b=(t.reverse.take k).foldl (stO g) b
 | 0,_ => by simp
 | k + 1, h => by
   have ih:=zk2 (g:=g) (v:=v) ht b k (by omega)
   rw [xn7 (rdO g) b _ (0,0) k (by simp; omega),xn7 (stO g) b _ (0,0) k (by simp; omega),ih]
   have hk : k < t.reverse.length:=by simp; omega
   have e : (((v,-1) :: t).reverse).getD k (0,0)=t.reverse.getD k (0,0):=by
    rw [List.reverse_cons]; simp [List.getD_eq_getElem?_getD,List.getElem?_append_left hk]
   rw [e]
   have h0 : 0<=(t.reverse.getD k (0,0)).2:=ht _ (List.mem_reverse.1 (xc0 (z:=((0,0) : Int × Int)) hk))
   unfold rdO stO
   simp only [h0,true_and]
theorem rd_all {g : Chg} {v : Int} {t : List (Int × Int)} (ht : ∀ r ∈ t,0<=r.2) (b : Nat) : (((v,-1) :: t).reverse.take ((v,-1) :: t).length).foldl (rdO g) b=lnO g b ((v,-1) :: t):=by
 have e : (((v,-1) :: t).reverse).getD t.length (0,0)=(v,-1):=by
  rw [List.reverse_cons,List.getD_eq_getElem?_getD,List.getElem?_append_right (by simp)]; simp
 rw [List.length_cons,xn7 (rdO g) b _ (0,0) t.length (by simp),zk2 ht b t.length (Nat.le_refl _),e,List.take_of_length_le (by simp)]
 unfold rdO lnO; simp
theorem rd_point {g : Chg} (hg : xc7 g=true) (i k : Nat) (hi : i < (xb7 g).length) (hk : k < ((xb7 g).getD i []).length) :
 ((((xb7 g).getD i []).reverse.take k).foldl (rdO g) (xf8 g i)) < 2 ^ g.ed.length ∧
 (0<=(((xb7 g).getD i []).getD (((xb7 g).getD i []).length - 1 - k) (0,0)).2->(((xb7 g).getD i []).getD (((xb7 g).getD i []).length - 1 - k) (0,0)).2.toNat < g.ed.length ∧
  0<=(((xb7 g).getD i []).getD (((xb7 g).getD i []).length - 1 - k) (0,0)).1∧(((xb7 g).getD i []).getD (((xb7 g).getD i []).length - 1 - k) (0,0)).1.toNat < g.ch.length):=by
 obtain ⟨v,t,hvt,_,_,_⟩:=zh5 hg i hi
 have hP:=fun k hk => zo3 hg i k hi hk
 rw [hvt] at hk hP ⊢
 simp only [List.drop_succ_cons,List.drop_zero] at hP
 have ht : ∀ r ∈ t,0<=r.2:=fun r hr => by
  have:=zb8 hg r (by
   unfold seqI
   refine List.mem_flatMap.2 ⟨(xb7 g).getD i [],xc0 hi,?_⟩
   rw [hvt]; simpa using hr)
  exact this.1
 simp only [List.length_cons] at hk ⊢
 by_cases hlt : k < t.length
 . obtain ⟨h1,h2⟩:=hP k (by simpa using hlt)
   rw [zk2 ht _ k (by omega)]
   refine ⟨h2,fun _ => ?_⟩
   have e : (((v,-1) :: t).getD (t.length + 1 - 1 - k) (0,0))=t.reverse.getD k (0,0):=by
    rw [show t.length + 1 - 1 - k=(t.length - 1 - k) + 1 by omega,List.getD_cons_succ,List.getD_eq_getElem?_getD,List.getD_eq_getElem?_getD,List.getElem?_reverse hlt]
   rw [e]
   exact ⟨h1.e1,h1.v0⟩
 . obtain rfl : k=t.length:=by omega
   rw [show t.length + 1 - 1 - t.length=0 by omega,List.getD_cons_zero]
   refine ⟨?_,fun h => by simp at h⟩
   rw [zk2 ht _ _ (Nat.le_refl _)]
   refine zj4 g _ _ _ (fun r hr => ?_) (xw8 hg i)
   have:=zb8 hg r (by
    unfold seqI
    refine List.mem_flatMap.2 ⟨(xb7 g).getD i [],xc0 hi,?_⟩
    rw [hvt]; simpa using List.mem_reverse.1 (List.mem_of_mem_take hr))
   exact this.2.1
theorem yo9 (g : Chg) (i : Nat) (h : i < (xb7 g).length) : xf8 g (i + 1)=lnO g (xf8 g i) ((xb7 g).getD i []):=xn7 _ _ _ [] i h
set_option maxHeartbeats 8000000 in
theorem impl_Model_ok (g : Chg) (hl : g.ed.length<=4294967296) (hc : g.ch.length<=4294967296) :
 Ctr Tryz.prog 14 [D.chg g] false (.tup [.d (.int .i64 (xg6 g)),.d (.bool (xe1 g))]) []:=by
 have c1:=xl8 g hl hc
 cases hb : xc7 g with
 | false =>
   rw [hb] at c1
   have e1 : xe1 g=false:=by unfold xe1; rw [hb]; rfl
   have e2 : xg6 g=0:=by unfold xg6; rw [e1]; rfl
   rw [e1,e2]
   refine Ctr.of (n:=46) (rs:=[.tmp 2,.tmp 3]) Tryz.func14 rfl rfl Tryz.ntmps14 rfl rfl (by kernel_rfl) Tryz.checked.mixed ?_
   simp (disch:=first | omega | decide +kernel) only [D.chg,D.ints,go_sem,Qa,Qb,Qc,Qd,Qe,↓reduceIte,reduceCtorEq,Qf,Qg,Qh]
   simp only [D.chg,D.ints] at c1
   (repeat' (first | ((first | (refine xa0 ?_ ?_<;>intro q'<;>(have h':=q')<;>(try simp only [zz] at h')<;>try (exfalso; omega)) | (have q':=trivial; first | refine xa3 (c1) rfl (by decide) ?_ | refine xa4 (c1) rfl ?_ | refine hE _ _ xa5 ?_ | refine hE _ _ xa2 ?_))<;>(try simp (disch:=first | omega | decide +kernel) only [q',D.chg,D.ints,go_sem,Qa,Qb,Qc,Qd,Qe,↓reduceIte,reduceCtorEq,Qf,Qg,Qh])<;>clear q') | (with_reducible first | refine And.intro ?_ ?_ | omega) | (refine xa1 ?_; omega)))
   all_goals (first | rfl | omega)
 | true =>
   rw [hb] at c1
   have c2:=yn6 g hb
   have c3:=zm0 g hb
   have hs:=(xd4 hb).1
   unfold xl0 at hs
   have hol:=(yd2 (g:=g))
   have hol2 : (oddI g).length<=8:=by unfold yd3 at hol; rwa [hb,if_pos rfl] at hol
   by_cases ho : (oddI g).length=0
   . have e1 : xe1 g=true:=by unfold xe1; rw [hb,decide_eq_true ho]; rfl
     have e2 : xg6 g=xf8 g (xb7 g).length:=by unfold xg6; rw [if_pos e1,xf8,List.take_length]; rfl
     rw [e1,e2]
     have hll:=xr2 g g.n.toNat
     change (xb7 g).length<=_ at hll
     refine Ctr.of (n:=46) (rs:=[.tmp 2,.tmp 3]) Tryz.func14 rfl rfl Tryz.ntmps14 rfl rfl (by kernel_rfl) Tryz.checked.mixed ?_
     simp (disch:=first | omega | decide +kernel) only [D.chg,D.ints,go_sem,Qa,Qb,Qc,Qd,Qe,↓reduceIte,reduceCtorEq,Qf,Qg,Qh]
     simp only [D.chg,D.ints] at c1 c2 c3
     (repeat' (first | ((first | (refine xa0 ?_ ?_<;>intro q'<;>(have h':=q')<;>(try simp only [zz] at h')<;>try (exfalso; omega)) | (have q':=trivial; first | refine xa3 (c1) rfl (by decide) ?_ | refine xa4 (c1) rfl ?_ | refine xa3 (c2) rfl (by decide) ?_ | refine xa4 (c2) rfl ?_ | refine xb3 (c3) rfl (by decide) ?_ | refine xb2 (c3) rfl ?_ | refine hE _ _ xa5 ?_ | refine hE _ _ xa2 ?_))<;>(try simp (disch:=first | omega | decide +kernel) only [q',D.chg,D.ints,ho,go_sem,Qa,Qb,Qc,Qd,Qe,↓reduceIte,reduceCtorEq,Qf,Qg,Qh])<;>clear q') | (with_reducible first | refine And.intro ?_ ?_ | omega) | exact xa6 | (refine xa1 ?_; omega) | (refine za9 ⟨?_,?_⟩) | (simp only [go_sem,Qc,Qb,zb1,zb2,forall_eq]; done)))
     have hO0 : (0 : Int)=((xf8 g 0 : Nat) : Int):=by simp [xf8]
     refine Ok.loopN [44,43,42,41,40,39,38,37,36,35,34,33,32,31,30,29,27,26,25,24,23,22,21,18,17,16,15,14,13,12,11,10,9,8,7,6,5,0] (fun i _ => [(21,.d (.int .i64 (i : Nat)))]) (fun i _ => [(4,.box 3 [.d (.int .i64 ((xf8 g i : Nat) : Int))])]) (xb7 g).length (fun _ (_ : Unit) => True) () trivial (by refine Wk.auto ?_ ?_<;>simp [xb1,lk,killL,St.kill,xb4,xb6,AV.has,AV.hasL,AO.wipe,List.map_set,xc2,insL,xc4,ins,xf8]) ?_
     rintro R i _ hN hE hi _
     by_cases hlt : i < (xb7 g).length
     . have hel : el (List.map D.lin (xb7 g)) i=.slice (((xb7 g).getD i []).map D.ed):=xv3 (f:=D.lin) [] hlt
       have hP:=fun k hk => rd_point hb i k hlt hk
       have hS:=yo9 g i hlt
       have hl8:=(xt0 hb _ (Nat.le_refl _) _ (xc0 (z:=([] : List (Int × Int))) (l:=xb7 g) hlt)).len
       obtain ⟨v,t,hvt,_,_,_⟩:=zh5 hb i hlt
       have ht : ∀ r ∈ t,0<=r.2:=fun r hr => by
        have:=zb8 hb r (by
         unfold seqI
         refine List.mem_flatMap.2 ⟨(xb7 g).getD i [],xc0 hlt,?_⟩
         rw [hvt]; simpa using hr)
        exact this.1
       generalize (xb7 g).getD i []=l at *
       have c4:=backwardR_ok (l.map D.ed)
       have hbl:=xw8 hb i
       simp (disch:=first | omega | decide +kernel) only [hel,go_sem,Qa,Qb,Qc,Qd,Qe,↓reduceIte,reduceCtorEq,Qf,Qg,Qh]
       (repeat' (first | ((first | (refine xa0 ?_ ?_<;>intro q'<;>(have h':=q')<;>(try simp only [zz] at h')<;>try (exfalso; omega)) | (have q':=trivial; first | refine xb3 (c4) rfl (by decide) ?_ | refine xb2 (c4) rfl ?_ | refine hE _ _ xa5 ?_ | refine hE _ _ xa2 ?_))<;>(try simp (disch:=first | omega | decide +kernel) only [q',hel,go_sem,Qa,Qb,Qc,Qd,Qe,↓reduceIte,reduceCtorEq,Qf,Qg,Qh])<;>clear q') | (with_reducible first | refine And.intro ?_ ?_ | omega) | (refine xa1 ?_; omega)))
       refine Ok.rangeBack (es:=l.map D.ed) (bf:=86) (enters_run ⟨_,Tryz.func86,by kernel_rfl,by kernel_rfl⟩) (iter_eds l (by omega)) ⟨by decide,by decide⟩ (by kernel_rfl) [1500000,4,1]
        (fun k st => st=⟨[(26,.fn (.func 86) [.d (.ptr (.slice (l.map D.ed)))]),(21,.d (.int .i64 (i : Nat))),(20,.d (.int .i64 ((xb7 g).length : Nat))),(19,.d (.slice ((xb7 g).map D.lin))),(4,.p 4 0),(3,.d (.bool false)),(2,.d (.int .i64 0)),(1,.p 1 0)],
         [(1500000,.arr 3 1 (List.map (D.int .i64) (oddI g))),(4,.box 3 [.d (.int .i64 (((l.reverse.take k).foldl (rdO g) (xf8 g i) : Nat) : Int))]),(1,.box 27 [.d (.int .i64 g.n),.d (.slice (List.map D.ed g.ed)),.d (.slice (List.map (D.int .i64) g.ch))])]⟩)
        ⟨_,(by refine Wk.auto ?_ ?_<;>simp [xb1,lk,killL,St.kill,xb4,xb6,AV.has,AV.hasL,AO.wipe,List.map_set,xc2,insL,xc4,ins,List.take_zero,List.foldl_nil]),rfl⟩ (fun k st h j o hj => by subst h; have:=xe9 hj; simp only [List.mem_cons,List.not_mem_nil,or_false,Prod.mk.injEq] at this; rcases this with ⟨_,rfl⟩ | ⟨_,rfl⟩ | ⟨_,rfl⟩<;>rfl) (fun k st h => by subst h; rfl) (fun k st hk h u => ?_) (fun st h => ?_)
       . subst h
         have hkl : k < l.length:=by simpa using hk
         obtain ⟨hB,hr⟩:=hP k hkl
         have hT:=rev_take g (xf8 g i) l k hkl
         have hm : 2 ^ g.ed.length<=2 ^ 12:=Nat.pow_le_pow_right (by decide) hs.2.1
         have hge : el (List.map D.ed l) (l.length - 1 - k)=.agg [.int .i64 (l.getD (l.length - 1 - k) (0,0)).1,.int .i64 (l.getD (l.length - 1 - k) (0,0)).2]:=xg3 (by omega)
         simp only [List.length_map]
         rw [hge,hT]
         generalize l.getD (l.length - 1 - k) (0,0)=r at *
         generalize (l.reverse.take k).foldl (rdO g) (xf8 g i)=b at *
         by_cases h0 : 0<=r.2
         . obtain ⟨he,hv0,hv1⟩:=hr h0
           have c5:=zj3 g r.1 b hb ⟨hv0,hv1⟩ (by omega)
           simp only [D.chg,D.ints] at c5
           have hp : 2 ^ r.2.toNat<=2 ^ 12:=Nat.pow_le_pow_right (by decide) (by omega)
           have hsl:=xu1 (e:=r.2.toNat) (by omega)
           rw [show IntKind.bits .i64=64 from rfl] at hsl
           have hor:=bitV_or (a:=b) (b:=2 ^ r.2.toNat) (by omega) (by omega)
           cases hw : xv6 g r.1 b with
           | true =>
             rw [hw] at c5
             rw [show rdO g b r=b ||| 2 ^ r.2.toNat by unfold rdO; rw [if_pos ⟨h0,hw⟩]]
             simp (disch:=first | omega | decide +kernel) only [xl9,xm9,xd0,go_sem,Qa,Qb,Qc,Qd,Qe,↓reduceIte,reduceCtorEq,Qf,Qg,Qh]
             (repeat' (first | ((first | (refine xa0 ?_ ?_<;>intro q'<;>(have h':=q')<;>(try simp only [zz] at h')<;>try (exfalso; omega)) | (have q':=trivial; first | refine xa3 (c5) rfl (by decide) ?_ | refine xa4 (c5) rfl ?_ | refine hE _ _ xa5 ?_ | refine hE _ _ xa2 ?_))<;>(try simp (disch:=first | omega | decide +kernel) only [q',xl9,xm9,xd0,hsl,hor,go_sem,Qa,Qb,Qc,Qd,Qe,↓reduceIte,reduceCtorEq,Qf,Qg,Qh])<;>clear q') | (with_reducible first | refine And.intro ?_ ?_ | omega) | exact xa6 | (refine xa1 ?_; omega) | (refine za9 ⟨?_,?_⟩) | (simp only [go_sem,Qc,Qb,zb1,zb2,forall_eq]; done)))
             (refine ⟨rfl,[],[(1500000,.arr 3 1 (List.map (D.int .i64) (oddI g))),(4,.box 3 [.d (.int .i64 ((b ||| 2 ^ r.2.toNat : Nat) : Int))]),(1,.box 27 [.d (.int .i64 g.n),.d (.slice (List.map D.ed g.ed)),.d (.slice (List.map (D.int .i64) g.ch))])],by simp [lk],by simp [lk],by simp,by simp,_,?_,rfl⟩; exact (by refine Wk.auto ?_ ?_<;>simp [xb1,lk,killL,St.kill,xb4,xb6,AV.has,AV.hasL,AO.wipe,List.map_set,xc2,insL,xc4,ins,impM,mvO,AO.mv,AV.mv,AV.mvL,xk3,St.put]))
           | false =>
             rw [hw] at c5
             rw [show rdO g b r=b by unfold rdO; rw [if_neg (by rw [hw]; simp)]]
             simp (disch:=first | omega | decide +kernel) only [xl9,xm9,xd0,go_sem,Qa,Qb,Qc,Qd,Qe,↓reduceIte,reduceCtorEq,Qf,Qg,Qh]
             (repeat' (first | ((first | (refine xa0 ?_ ?_<;>intro q'<;>(have h':=q')<;>(try simp only [zz] at h')<;>try (exfalso; omega)) | (have q':=trivial; first | refine xa3 (c5) rfl (by decide) ?_ | refine xa4 (c5) rfl ?_ | refine hE _ _ xa5 ?_ | refine hE _ _ xa2 ?_))<;>(try simp (disch:=first | omega | decide +kernel) only [q',xl9,xm9,xd0,go_sem,Qa,Qb,Qc,Qd,Qe,↓reduceIte,reduceCtorEq,Qf,Qg,Qh])<;>clear q') | (with_reducible first | refine And.intro ?_ ?_ | omega) | exact xa6 | (refine xa1 ?_; omega) | (refine za9 ⟨?_,?_⟩) | (simp only [go_sem,Qc,Qb,zb1,zb2,forall_eq]; done)))
             (refine ⟨rfl,[],[(1500000,.arr 3 1 (List.map (D.int .i64) (oddI g))),(4,.box 3 [.d (.int .i64 ((b : Nat) : Int))]),(1,.box 27 [.d (.int .i64 g.n),.d (.slice (List.map D.ed g.ed)),.d (.slice (List.map (D.int .i64) g.ch))])],by simp [lk],by simp [lk],by simp,by simp,_,?_,rfl⟩; exact (by refine Wk.auto ?_ ?_<;>simp [xb1,lk,killL,St.kill,xb4,xb6,AV.has,AV.hasL,AO.wipe,List.map_set,xc2,insL,xc4,ins,impM,mvO,AO.mv,AV.mv,AV.mvL,xk3,St.put]))
         . rw [show rdO g b r=b by unfold rdO; rw [if_neg (fun h => h0 h.1)]]
           simp (disch:=first | omega | decide +kernel) only [xl9,xm9,xd0,go_sem,Qa,Qb,Qc,Qd,Qe,↓reduceIte,reduceCtorEq,Qf,Qg,Qh]
           (repeat' (first | ((first | (refine xa0 ?_ ?_<;>intro q'<;>(have h':=q')<;>(try simp only [zz] at h')<;>try (exfalso; omega)) | (have q':=trivial; first | refine hE _ _ xa5 ?_ | refine hE _ _ xa2 ?_))<;>(try simp (disch:=first | omega | decide +kernel) only [q',xl9,xm9,xd0,go_sem,Qa,Qb,Qc,Qd,Qe,↓reduceIte,reduceCtorEq,Qf,Qg,Qh])<;>clear q') | (with_reducible first | refine And.intro ?_ ?_ | omega) | exact xa6 | (refine xa1 ?_; omega) | (refine za9 ⟨?_,?_⟩) | (simp only [go_sem,Qc,Qb,zb1,zb2,forall_eq]; done)))
           (refine ⟨rfl,[],[(1500000,.arr 3 1 (List.map (D.int .i64) (oddI g))),(4,.box 3 [.d (.int .i64 ((b : Nat) : Int))]),(1,.box 27 [.d (.int .i64 g.n),.d (.slice (List.map D.ed g.ed)),.d (.slice (List.map (D.int .i64) g.ch))])],by simp [lk],by simp [lk],by simp,by simp,_,?_,rfl⟩; exact (by refine Wk.auto ?_ ?_<;>simp [xb1,lk,killL,St.kill,xb4,xb6,AV.has,AV.hasL,AO.wipe,List.map_set,xc2,insL,xc4,ins,impM,mvO,AO.mv,AV.mv,AV.mvL,xk3,St.put]))
       . subst h
         simp only [List.length_map]
         rw [show (l.reverse.take l.length).foldl (rdO g) (xf8 g i)=xf8 g (i + 1) by rw [hS,hvt]; exact rd_all ht _]
         simp (disch:=first | omega | decide +kernel) only [go_sem,Qa,Qb,Qc,Qd,Qe,↓reduceIte,reduceCtorEq,Qf,Qg,Qh]
         (repeat' (first | ((first | (refine xa0 ?_ ?_<;>intro q'<;>(have h':=q')<;>(try simp only [zz] at h')<;>try (exfalso; omega)) | (have q':=trivial; first | refine hE _ _ xa5 ?_ | refine hE _ _ xa2 ?_))<;>(try simp (disch:=first | omega | decide +kernel) only [q',go_sem,Qa,Qb,Qc,Qd,Qe,↓reduceIte,reduceCtorEq,Qf,Qg,Qh])<;>clear q') | (with_reducible first | refine And.intro ?_ ?_ | omega) | (refine xa1 ?_; omega)))
         all_goals (first | (refine hN () _ hlt trivial (by refine Wk.auto ?_ ?_<;>simp [xb1,lk,killL,St.kill,xb4,xb6,AV.has,AV.hasL,AO.wipe,List.map_set,xc2,insL,xc4,ins,]); done))
     . simp (disch:=first | omega | decide +kernel) only [go_sem,Qa,Qb,Qc,Qd,Qe,↓reduceIte,reduceCtorEq,Qf,Qg,Qh]
       (repeat' (first | ((first | (refine xa0 ?_ ?_<;>intro q'<;>(have h':=q')<;>(try simp only [zz] at h')<;>try (exfalso; omega)) | (have q':=trivial; first | refine hE _ _ xa5 ?_ | refine hE _ _ xa2 ?_))<;>(try simp (disch:=first | omega | decide +kernel) only [q',go_sem,Qa,Qb,Qc,Qd,Qe,↓reduceIte,reduceCtorEq,Qf,Qg,Qh])<;>clear q') | (with_reducible first | refine And.intro ?_ ?_ | omega) | (refine xa1 ?_; omega)))
       all_goals (first | (rw [show i=(xb7 g).length by omega]; done) | (rw [show i=(xb7 g).length by omega]) | omega)
   . have e1 : xe1 g=false:=by unfold xe1; rw [hb,decide_eq_false ho]; rfl
     have e2 : xg6 g=0:=by unfold xg6; rw [e1]; rfl
     rw [e1,e2]
     refine Ctr.of (n:=46) (rs:=[.tmp 2,.tmp 3]) Tryz.func14 rfl rfl Tryz.ntmps14 rfl rfl (by kernel_rfl) Tryz.checked.mixed ?_
     simp (disch:=first | omega | decide +kernel) only [D.chg,D.ints,go_sem,Qa,Qb,Qc,Qd,Qe,↓reduceIte,reduceCtorEq,Qf,Qg,Qh]
     simp only [D.chg,D.ints] at c1 c2 c3
     (repeat' (first | ((first | (refine xa0 ?_ ?_<;>intro q'<;>(have h':=q')<;>(try simp only [zz] at h')<;>try (exfalso; omega)) | (have q':=trivial; first | refine xa3 (c1) rfl (by decide) ?_ | refine xa4 (c1) rfl ?_ | refine xa3 (c2) rfl (by decide) ?_ | refine xa4 (c2) rfl ?_ | refine xb3 (c3) rfl (by decide) ?_ | refine xb2 (c3) rfl ?_ | refine hE _ _ xa5 ?_ | refine hE _ _ xa2 ?_))<;>(try simp (disch:=first | omega | decide +kernel) only [q',D.chg,D.ints,go_sem,Qa,Qb,Qc,Qd,Qe,↓reduceIte,reduceCtorEq,Qf,Qg,Qh])<;>clear q') | (with_reducible first | refine And.intro ?_ ?_ | omega) | (refine xa1 ?_; omega)))
     all_goals (first | rfl | omega | (exfalso; omega))
end Abs.Y

namespace Abs.Y
open Go Go.Proofs Abs
open Nat renaming reduceEqDiff -> Qa, reduceLT -> Qb, reduceAdd -> Qc, reduceMul -> Qd, reduceSub -> Qe, reduceLeDiff -> Qf, reduceSubDiff -> Qg, reduceBEq -> Qh
open Bool renaming not_eq_true' -> Ba, not_eq_false' -> Bb, and_eq_true -> Bc, or_eq_true -> Bh, or_eq_false_iff -> Be
open Int renaming ofNat_lt -> Ia, ofNat_le -> Ib, not_lt -> Ic, not_le -> Ie
open Decidable renaming not_not -> Da
set_option maxRecDepth 100000

set_option maxHeartbeats 8000000 in
theorem spec_Model_ok (g : Chg) (hl : g.ed.length<=4294967296) (hc : g.ch.length<=4294967296) :
 Ctr Tryz.prog 15 [D.chg g] false (.tup [.d (.int .i64 (xg6 g)),.d (.bool (xe1 g))]) []:=by
 have c1:=xt1 g hl hc
 cases hb : xc7 g with
 | false =>
   rw [hb] at c1
   have e1 : xe1 g=false:=by unfold xe1; rw [hb]; rfl
   have e2 : xg6 g=0:=by unfold xg6; rw [e1]; rfl
   rw [e1,e2]
   refine Ctr.of (n:=60) (rs:=[.tmp 2,.tmp 3]) Tryz.func15 rfl rfl Tryz.ntmps15 rfl rfl (by kernel_rfl) Tryz.checked.mixed ?_
   simp (disch:=first | omega | decide +kernel) only [D.chg,D.ints,go_sem,Qa,Qb,Qc,Qd,Qe,↓reduceIte,reduceCtorEq,Qf,Qg,Qh]
   simp only [D.chg,D.ints] at c1
   (repeat' (first | ((first | (refine xa0 ?_ ?_<;>intro q'<;>(have h':=q')<;>(try simp only [zz] at h')<;>try (exfalso; omega)) | (have q':=trivial; first | refine xa3 (c1) rfl (by decide) ?_ | refine xa4 (c1) rfl ?_ | refine hE _ _ xa5 ?_ | refine hE _ _ xa2 ?_))<;>(try simp (disch:=first | omega | decide +kernel) only [q',D.chg,D.ints,go_sem,Qa,Qb,Qc,Qd,Qe,↓reduceIte,reduceCtorEq,Qf,Qg,Qh])<;>clear q') | (with_reducible first | refine And.intro ?_ ?_ | omega) | (refine xa1 ?_; omega)))
   all_goals (first | rfl | omega)
 | true =>
   rw [hb] at c1
   have c2:=zd4 g hb
   have c3:=yp4 g hb
   have hs:=(xd4 hb).1
   unfold xl0 at hs
   have hol:=(yd2 (g:=g))
   have hol2 : (oddI g).length<=8:=by unfold yd3 at hol; rwa [hb,if_pos rfl] at hol
   by_cases ho : (oddI g).length=0
   . have e1 : xe1 g=true:=by unfold xe1; rw [hb,decide_eq_true ho]; rfl
     have e2 : xg6 g=xf8 g (xb7 g).length:=by unfold xg6; rw [if_pos e1,xf8,List.take_length]; rfl
     rw [e1,e2]
     have hll:=xr2 g g.n.toNat
     change (xb7 g).length<=_ at hll
     refine Ctr.of (n:=60) (rs:=[.tmp 2,.tmp 3]) Tryz.func15 rfl rfl Tryz.ntmps15 rfl rfl (by kernel_rfl) Tryz.checked.mixed ?_
     simp (disch:=first | omega | decide +kernel) only [D.chg,D.ints,go_sem,Qa,Qb,Qc,Qd,Qe,↓reduceIte,reduceCtorEq,Qf,Qg,Qh]
     simp only [D.chg,D.ints] at c1 c2 c3
     (repeat' (first | ((first | (refine xa0 ?_ ?_<;>intro q'<;>(have h':=q')<;>(try simp only [zz] at h')<;>try (exfalso; omega)) | (have q':=trivial; first | refine xa3 (c1) rfl (by decide) ?_ | refine xa4 (c1) rfl ?_ | refine xb3 (c2) rfl (by decide) ?_ | refine xb2 (c2) rfl ?_ | refine xb3 (c3) rfl (by decide) ?_ | refine xb2 (c3) rfl ?_ | refine hE _ _ xa5 ?_ | refine hE _ _ xa2 ?_))<;>(try simp (disch:=first | omega | decide +kernel) only [q',D.chg,D.ints,ho,go_sem,Qa,Qb,Qc,Qd,Qe,↓reduceIte,reduceCtorEq,Qf,Qg,Qh])<;>clear q') | (with_reducible first | refine And.intro ?_ ?_ | omega) | (refine xa1 ?_; omega)))
     have hO0 : (0 : Int)=((xf8 g 0 : Nat) : Int):=by simp [xf8]
     refine Ok.loopN [58,57,56,55,54,53,52,51,50,49,48,47,46,45,44,43,42,41,40,39,38,37,36,35,34,33,32,31,30,29,28,27,26,25,24,23,22,21,20,19,18,17,16,15,14,13,12,11,10,9,8,7,6,4,0] (fun i _ => [(6,.d (.int .i64 (i : Nat))),(4,.d (.int .i64 ((xf8 g i : Nat) : Int)))]) (fun _ (_ : Unit) => []) (xb7 g).length (fun _ _ => True) () trivial (by refine Wk.auto ?_ ?_<;>simp [xb1,lk,killL,St.kill,xb4,xb6,AV.has,AV.hasL,AO.wipe,List.map_set,xc2,insL,xc4,ins,xf8]) ?_
     rintro R i _ hN0 hE0 hi _
     by_cases hlt : i < (xb7 g).length
     . have hP:=fun k hk => zo3 hb i k hlt hk
       have hS:=yo9 g i hlt
       have hl8:=(xt0 hb _ (Nat.le_refl _) _ (xc0 (z:=([] : List (Int × Int))) (l:=xb7 g) hlt)).len
       obtain ⟨v,t,hvt,hv,hli,hhd⟩:=zh5 hb i hlt
       have hel : el (List.map xp7 (xb7 g)) i=.slice ((xq4 (((xb7 g).getD i []).map (·.1))).map (.int .i64)):=xv3 (f:=xp7) [] hlt
       generalize (xb7 g).getD i []=l at *
       have hsl : (xq4 (l.map (·.1))).length=l.length:=by rw [xv9]; simp
       have hll2 : 0 < l.length:=by rw [hvt]; simp
       have hv0 : el ((xq4 (l.map (·.1))).map (D.int .i64)) 0=.int .i64 v:=by rw [xl3 (by omega),hhd]
       generalize xq4 (l.map (·.1))=so at *
       have c4:=Ctr.tupN (ys:=[_,_]) (yu6 g v hb hv)
       rw [← hli] at c4
       have hbl:=xw8 hb i
       simp only [D.chg,D.ints] at c4
       simp (disch:=first | omega | decide +kernel) only [hel,hv0,xl9,go_sem,Qa,Qb,Qc,Qd,Qe,↓reduceIte,reduceCtorEq,Qf,Qg,Qh]
       (repeat' (first | ((first | (refine xa0 ?_ ?_<;>intro q'<;>(have h':=q')<;>(try simp only [zz] at h')<;>try (exfalso; omega)) | (have q':=trivial; first | refine xb3 (c4) rfl (by decide) ?_ | refine xb2 (c4) rfl ?_ | refine hE _ _ xa5 ?_ | refine hE _ _ xa2 ?_))<;>(try simp (disch:=first | omega | decide +kernel) only [q',hel,hv0,xl9,xf5,go_sem,Qa,Qb,Qc,Qd,Qe,↓reduceIte,reduceCtorEq,Qf,Qg,Qh])<;>clear q') | (with_reducible first | refine And.intro ?_ ?_ | omega) | (refine xa1 ?_; omega)))
       refine Ok.loopN [58,57,56,55,54,53,52,51,50,49,48,47,46,45,44,43,42,41,20,19,18,17,16,15,14,13,12,11,10,9,4,0] (fun k _ => [(9,.d (.int .i64 ((l.length : Int) - 1 - (k : Nat)))),(4,.d (.int .i64 (((t.reverse.take k).foldl (stO g) (xf8 g i) : Nat) : Int)))]) (fun _ (_ : Unit) => []) t.length (fun _ _ => True) () trivial (by refine Wk.auto ?_ ?_<;>simp [xb1,lk,killL,St.kill,xb4,xb6,AV.has,AV.hasL,AO.wipe,List.map_set,xc2,insL,xc4,ins,]) ?_
       rintro R2 k _ hN hE hk _
       have hlt2 : l.length=t.length + 1:=by rw [hvt]; rfl
       have hd : l.drop 1=t:=by rw [hvt]; rfl
       by_cases hkt : k < t.length
       . obtain ⟨hA,hB⟩:=hP k (by rw [hd]; simpa using hkt)
         rw [hd] at hA hB
         have hT:=xn7 (stO g) (xf8 g i) t.reverse (0,0) k (by simpa using hkt)
         obtain ⟨q,hq⟩ : ∃ q,l.length - 1 - k=q:=⟨_,rfl⟩
         have hqi : (l.length : Int) - 1 - (k : Nat)=(q : Nat):=by omega
         have hqi2 : (l.length : Int) - 1 - ((k : Int) + 1)=(q : Int) - 1:=by omega
         have hrq : t.reverse.getD k (0,0)=l.getD q (0,0):=by
          rw [hvt,show q=(t.length - 1 - k) + 1 by omega,List.getD_cons_succ,List.getD_eq_getElem?_getD,List.getD_eq_getElem?_getD,List.getElem?_reverse hkt]
         have hef : el (fstD l) q=.int .i64 (l.getD q (0,0)).1:=zf1 (by omega)
         have hes : el (sndD l) q=.int .i64 (l.getD q (0,0)).2:=xv3 (f:=fun r : Int × Int => D.int .i64 r.2) (0,0) (by omega)
         have hfl : (fstD l).length=l.length:=xf5
         have hsl2 : (sndD l).length=l.length:=yc2
         rw [← hrq] at hef hes
         have hm : 2 ^ g.ed.length<=2 ^ 12:=Nat.pow_le_pow_right (by decide) hs.2.1
         obtain ⟨hA1,hA2,hA3,hA4⟩:=hA
         rw [hqi]
         generalize t.reverse.getD k (0,0)=r at *
         generalize (t.reverse.take k).foldl (stO g) (xf8 g i)=b at *
         have c5:=yp3 g r.1 b hb hA4 (by omega)
         simp only [D.chg,D.ints] at c5
         have hp : 2 ^ r.2.toNat<=2 ^ 12:=Nat.pow_le_pow_right (by decide) (by omega)
         have hshl:=xu1 (e:=r.2.toNat) (by omega)
         have hoa:=or_add hA1 (by omega) (by omega)
         rw [show IntKind.bits .i64=64 from rfl] at hshl
         cases hw : xv6 g r.1 b with
         | true =>
           rw [hw] at c5
           have e3 : stO g b r=b + 2 ^ r.2.toNat:=by unfold stO; rw [hw,if_pos rfl,hoa]
           rw [e3] at hT
           generalize 2 ^ r.2.toNat=pw at *
           simp (disch:=first | omega | decide +kernel) only [hef,hes,hfl,hsl2,go_sem,Qa,Qb,Qc,Qd,Qe,↓reduceIte,reduceCtorEq,Qf,Qg,Qh]
           (repeat' (first | ((first | (refine xa0 ?_ ?_<;>intro q'<;>(have h':=q')<;>(try simp only [zz] at h')<;>try (exfalso; omega)) | (have q':=trivial; first | refine xa3 (c5) rfl (by decide) ?_ | refine xa4 (c5) rfl ?_ | refine hE _ _ xa5 ?_ | refine hE _ _ xa2 ?_))<;>(try simp (disch:=first | omega | decide +kernel) only [q',hef,hes,hfl,hsl2,hshl,go_sem,Qa,Qb,Qc,Qd,Qe,↓reduceIte,reduceCtorEq,Qf,Qg,Qh])<;>clear q') | (with_reducible first | refine And.intro ?_ ?_ | omega) | (refine xa1 ?_; omega)))
           refine hN () _ hkt trivial (by refine Wk.auto ?_ ?_<;>simp [xb1,lk,killL,St.kill,xb4,xb6,AV.has,AV.hasL,AO.wipe,List.map_set,xc2,insL,xc4,ins,hT,hqi2])
         | false =>
           rw [hw] at c5
           have e3 : stO g b r=b:=by unfold stO; rw [hw,if_neg (by simp)]
           rw [e3] at hT
           simp (disch:=first | omega | decide +kernel) only [hef,hes,hfl,hsl2,go_sem,Qa,Qb,Qc,Qd,Qe,↓reduceIte,reduceCtorEq,Qf,Qg,Qh]
           (repeat' (first | ((first | (refine xa0 ?_ ?_<;>intro q'<;>(have h':=q')<;>(try simp only [zz] at h')<;>try (exfalso; omega)) | (have q':=trivial; first | refine xa3 (c5) rfl (by decide) ?_ | refine xa4 (c5) rfl ?_ | refine hE _ _ xa5 ?_ | refine hE _ _ xa2 ?_))<;>(try simp (disch:=first | omega | decide +kernel) only [q',hef,hes,hfl,hsl2,go_sem,Qa,Qb,Qc,Qd,Qe,↓reduceIte,reduceCtorEq,Qf,Qg,Qh])<;>clear q') | (with_reducible first | refine And.intro ?_ ?_ | omega) | (refine xa1 ?_; omega)))
           refine hN () _ hkt trivial (by refine Wk.auto ?_ ?_<;>simp [xb1,lk,killL,St.kill,xb4,xb6,AV.has,AV.hasL,AO.wipe,List.map_set,xc2,insL,xc4,ins,hT,hqi2])
       . obtain rfl : k=t.length:=by omega
         have hqi : (l.length : Int) - 1 - (t.length : Nat)=0:=by omega
         rw [hqi,List.take_of_length_le (by simp)]
         rw [show t.reverse.foldl (stO g) (xf8 g i)=xf8 g (i + 1) by rw [hS,← hd]; rfl]
         simp (disch:=first | omega | decide +kernel) only [go_sem,Qa,Qb,Qc,Qd,Qe,↓reduceIte,reduceCtorEq,Qf,Qg,Qh]
         (repeat' (first | ((first | (refine xa0 ?_ ?_<;>intro q'<;>(have h':=q')<;>(try simp only [zz] at h')<;>try (exfalso; omega)) | (have q':=trivial; first | refine hE _ _ xa5 ?_ | refine hE _ _ xa2 ?_))<;>(try simp (disch:=first | omega | decide +kernel) only [q',go_sem,Qa,Qb,Qc,Qd,Qe,↓reduceIte,reduceCtorEq,Qf,Qg,Qh])<;>clear q') | (with_reducible first | refine And.intro ?_ ?_ | omega) | (refine xa1 ?_; omega)))
         all_goals (first | (refine hN0 () _ hlt trivial (by refine Wk.auto ?_ ?_<;>simp [xb1,lk,killL,St.kill,xb4,xb6,AV.has,AV.hasL,AO.wipe,List.map_set,xc2,insL,xc4,ins,]); done))
     . have hE:=hE0
       simp (disch:=first | omega | decide +kernel) only [go_sem,Qa,Qb,Qc,Qd,Qe,↓reduceIte,reduceCtorEq,Qf,Qg,Qh]
       (repeat' (first | ((first | (refine xa0 ?_ ?_<;>intro q'<;>(have h':=q')<;>(try simp only [zz] at h')<;>try (exfalso; omega)) | (have q':=trivial; first | refine hE _ _ xa5 ?_ | refine hE _ _ xa2 ?_))<;>(try simp (disch:=first | omega | decide +kernel) only [q',go_sem,Qa,Qb,Qc,Qd,Qe,↓reduceIte,reduceCtorEq,Qf,Qg,Qh])<;>clear q') | (with_reducible first | refine And.intro ?_ ?_ | omega) | (refine xa1 ?_; omega)))
       all_goals (first | (rw [show i=(xb7 g).length by omega]; done) | (rw [show i=(xb7 g).length by omega]) | omega)
   . have e1 : xe1 g=false:=by unfold xe1; rw [hb,decide_eq_false ho]; rfl
     have e2 : xg6 g=0:=by unfold xg6; rw [e1]; rfl
     rw [e1,e2]
     refine Ctr.of (n:=60) (rs:=[.tmp 2,.tmp 3]) Tryz.func15 rfl rfl Tryz.ntmps15 rfl rfl (by kernel_rfl) Tryz.checked.mixed ?_
     simp (disch:=first | omega | decide +kernel) only [D.chg,D.ints,go_sem,Qa,Qb,Qc,Qd,Qe,↓reduceIte,reduceCtorEq,Qf,Qg,Qh]
     simp only [D.chg,D.ints] at c1 c2 c3
     (repeat' (first | ((first | (refine xa0 ?_ ?_<;>intro q'<;>(have h':=q')<;>(try simp only [zz] at h')<;>try (exfalso; omega)) | (have q':=trivial; first | refine xa3 (c1) rfl (by decide) ?_ | refine xa4 (c1) rfl ?_ | refine xb3 (c2) rfl (by decide) ?_ | refine xb2 (c2) rfl ?_ | refine xb3 (c3) rfl (by decide) ?_ | refine xb2 (c3) rfl ?_ | refine hE _ _ xa5 ?_ | refine hE _ _ xa2 ?_))<;>(try simp (disch:=first | omega | decide +kernel) only [q',D.chg,D.ints,go_sem,Qa,Qb,Qc,Qd,Qe,↓reduceIte,reduceCtorEq,Qf,Qg,Qh])<;>clear q') | (with_reducible first | refine And.intro ?_ ?_ | omega) | (refine xa1 ?_; omega)))
     all_goals (first | rfl | omega | (exfalso; omega))
end Abs.Y

namespace Abs.Y
open Go Go.Proofs Abs
open Nat renaming reduceEqDiff -> Qa, reduceLT -> Qb, reduceAdd -> Qc, reduceMul -> Qd, reduceSub -> Qe, reduceLeDiff -> Qf, reduceSubDiff -> Qg, reduceBEq -> Qh
open Bool renaming not_eq_true' -> Ba, not_eq_false' -> Bb, and_eq_true -> Bc, or_eq_true -> Bh, or_eq_false_iff -> Be
open Int renaming ofNat_lt -> Ia, ofNat_le -> Ib, not_lt -> Ic, not_le -> Ie
open Decidable renaming not_not -> Da
set_option maxRecDepth 100000

theorem part_at {g : Chg} (hg : xc7 g=true) {i : Nat} (hi : i < (xg2 g).length) : ∃ v : Nat,(v : Int) < g.n∧(xg2 g).getD i []=cmpV g v:=by
 have hm:=xc0 (z:=([] : List Int)) hi
 rw [yt8 hg] at hm ⊢
 obtain ⟨v,hv,e⟩:=List.mem_map.1 hm
 have:=List.mem_range.1 (List.mem_filter.1 hv).1
 have:=(xf0.1 hg).n1
 exact ⟨v,by omega,e.symm⟩
end Abs.Y

namespace Abs.Y
open Go Go.Proofs Abs
open Nat renaming reduceEqDiff -> Qa, reduceLT -> Qb, reduceAdd -> Qc, reduceMul -> Qd, reduceSub -> Qe, reduceLeDiff -> Qf, reduceSubDiff -> Qg, reduceBEq -> Qh
open Bool renaming not_eq_true' -> Ba, not_eq_false' -> Bb, and_eq_true -> Bc, or_eq_true -> Bh, or_eq_false_iff -> Be
open Int renaming ofNat_lt -> Ia, ofNat_le -> Ib, not_lt -> Ic, not_le -> Ie
open Decidable renaming not_not -> Da
set_option maxRecDepth 100000

theorem zl5 {g : Chg} (hg : xc7 g=true) {i v : Nat} (e : (xg2 g).getD i []=cmpV g v) : oddB g i=decide (rs g.n.toNat (ctS g v) % 2=1):=by
 have h0:=yc4 g.n.toNat (ctS_nonneg (xf0.1 hg) v)
 have hs : xv8 g (cmpV g v)=rs g.n.toNat (ctS g v):=sum_compL g v
 unfold oddB
 rw [e,hs,Int.tmod_eq_emod_of_nonneg h0]
theorem ctS_conn {g : Chg} {u v : Nat} (h : Conn g u v) : ctS g u=ctS g v:=funext fun w => by
 have : xz9 g u w=xz9 g v w:=by
  rw [Bool.eq_iff_iff,xo9,xo9]
  exact ⟨fun h1 => h.symm.trans h1,fun h1 => h.trans h1⟩
 unfold ctS
 rw [this]
theorem oddTo_z {g : Chg} {m : Nat} : (xu3 g m).length=0↔∀ i,i < m->oddB g i=false:=by
 unfold xu3
 rw [List.length_map,List.length_eq_zero_iff,List.filter_eq_nil_iff]
 simp
theorem zr0 {g : Chg} (hg : xc7 g=true) : (oddI g).length=0↔∀ v : Nat,(v : Int) < g.n->rs g.n.toNat (ctS g v) % 2=0:=by
 have hn:=(xf0.1 hg).n1
 unfold oddI
 rw [oddTo_z]
 constructor
 . intro h v hv
   obtain ⟨u,h1,h2,h3⟩:=zw3 g v
   rw [← ctS_conn h2]
   have hm : cmpV g u ∈ xg2 g:=by
    rw [yt8 hg]
    exact List.mem_map.2 ⟨u,List.mem_filter.2 ⟨List.mem_range.2 (by omega),h3⟩,rfl⟩
   obtain ⟨i,hi,e⟩:=List.mem_iff_getElem.1 hm
   have h4:=h i hi
   rw [zl5 hg (v:=u) (by rw [List.getD_eq_getElem?_getD,List.getElem?_eq_getElem hi,e]; rfl)] at h4
   have h5:=of_decide_eq_false h4
   omega
 . intro h i hi
   obtain ⟨v,hv,e⟩:=part_at hg hi
   rw [zl5 hg e]
   have:=h v hv
   exact decide_eq_false (by omega)
theorem finB_lt {g : Chg} (hg : xc7 g=true) : finB g < 2 ^ g.ed.length:=by
 have:=xw8 hg (xb7 g).length
 rwa [show xf8 g (xb7 g).length=finB g by unfold xf8 finB; rw [List.take_length]] at this
theorem yd5 (g : Chg) : xg6 g < 2 ^ g.ed.length:=by
 unfold xg6
 split
 . rename_i h
   unfold xe1 at h
   exact finB_lt (Bc _ _ ▸ h).1
 . exact Nat.two_pow_pos _
theorem yw4 {g : Chg} (hg : xc7 g=true) (ho : xe1 g=true) : satG g (xg6 g)=true:=by
 have h0:=ho
 unfold xe1 at ho
 rw [hg,Bool.true_and,decide_eq_true_eq,zr0 hg] at ho
 have:=told_right hg ho
 rw [← finB_seq] at this
 unfold xg6
 rw [if_pos h0]
 exact this
theorem model_sat {g : Chg} (hg : xc7 g=true) : tsat g.ed.length (parI g)=xe1 g:=by
 have hG:=xf0.1 hg
 cases ho : xe1 g with
 | true =>
   exact zb3 (yd5 g) (by rw [yx2 hG]; exact yw4 hg ho)
 | false =>
   unfold xe1 at ho
   rw [hg,Bool.true_and] at ho
   have ho:=of_decide_eq_false ho
   rw [zr0 hg] at ho
   obtain ⟨v,hv⟩:=Classical.not_forall.1 ho
   obtain ⟨_,hv⟩:=Classical.not_imp.1 hv
   exact zb4 fun j _ => by rw [yx2 hG]; exact odd_unsat hG (v:=v) (by omega) j
theorem zp4 (g : Chg) (b : Nat) : ∀ m,((wrTo g b m).length : Int)=rs m fun i => if !(satV g b i) then 1 else 0
 | 0 => rfl
 | m + 1 => by
   rw [yk8,xf1,← zp4 g b m]
   cases satV g b m<;>simp
theorem zv4 (g : Chg) (b : Nat) : decide ((wrTo g b g.n.toNat).length=0)=satG g b:=by
 rw [Bool.eq_iff_iff,decide_eq_true_eq]
 unfold wrTo satG
 rw [List.length_map,List.length_eq_zero_iff,List.filter_eq_nil_iff,List.all_eq_true]
 simp
theorem wr_par {g : Chg} (hg : GoodP g) (b : Nat) : Int.tmod ((wrTo g b g.n.toNat).length : Int) 2=Int.tmod (rs g.ch.length fun i => g.ch.getD i 0) 2:=by
 have h:=zx7 hg (fun _ => true) (fun _ _ => rfl) b
 have e1 : rs g.n.toNat (fun i => if true && !(satV g b i) then 1 else 0)=rs g.n.toNat (fun i => if !(satV g b i) then 1 else 0):=xm3 _ fun i _ => by rw [Bool.true_and]
 have e2 : rs g.n.toNat (fun i => if true then g.ch.getD i 0 else 0)=rs g.n.toNat (fun i => g.ch.getD i 0):=xm3 _ fun i _ => if_pos rfl
 simp only [Bool.true_and,if_true] at h
 rw [← zp4] at h
 have hc:=hg.c
 have hnn : g.n.toNat=g.ch.length:=by omega
 have h0 : 0<=rs g.ch.length fun i => g.ch.getD i 0:=yc4 _ fun i hi => (hg.q i hi).1
 rw [Int.tmod_eq_emod_of_nonneg (by omega),Int.tmod_eq_emod_of_nonneg h0]
 rw [hnn] at h ⊢
 omega
theorem zp5 {g : Chg} (hg : xc7 g=true) (ho : xe1 g=true) : wvB g (xg6 g : Int)=true∧wvL g (xg6 g : Int)=[]:=by
 have hb : wvB g (xg6 g : Int)=true:=by
  have:=yd5 g
  unfold wvB
  rw [hg,Bool.true_and,Bc,decide_eq_true_eq,decide_eq_true_eq]
  omega
 refine ⟨hb,?_⟩
 unfold wvL
 rw [if_pos hb,Int.toNat_natCast]
 have:=zv4 g (xg6 g)
 rw [yw4 hg ho,decide_eq_true_eq] at this
 exact List.length_eq_zero_iff.1 this
end Abs.Y
