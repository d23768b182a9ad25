/- What functions of this program compute, over plain data. No condition. -/
import Derived.Test.YtkccabajcdphkaaGreatK8
import Derived.Test.YtkccabajcdphkaaGreatAbsBox
set_option linter.all false
namespace Abs.Y
open Go Go.Proofs Abs
open Nat renaming reduceEqDiff -> Qa, reduceLT -> Qb, reduceAdd -> Qc, reduceMul -> Qd, reduceSub -> Qe, reduceLeDiff -> Qf, reduceSubDiff -> Qg, reduceBEq -> Qh
open Bool renaming not_eq_true' -> Ba, not_eq_false' -> Bb, and_eq_true -> Bc, or_eq_true -> Bh, or_eq_false_iff -> Be
open Int renaming ofNat_lt -> Ia, ofNat_le -> Ib, not_lt -> Ic, not_le -> Ie
open Decidable renaming not_not -> Da
set_option maxRecDepth 100000

def xp7 (l : List (Int × Int)) : D:=.slice ((xq4 (l.map (·.1))).map (.int .i64))
def xg2 (g : Chg) : List (List Int):=(xb7 g).map fun l => xq4 (l.map (·.1))
theorem zk6 (n : Int) : ∀ l : List Int,(putZ l n).length<=l.length + 1
 | [] => by simp [putZ]
 | x :: r => by
   have:=zk6 n r
   unfold putZ
   split
   . simp only [List.length_cons]; omega
   . split<;>simp
theorem ym6 (l xs : List Int) (x : Int) : xl1 l (xs++[x])=putZ (xl1 l xs) x:=by simp [xl1]
theorem ya6 : ∀ (xs l : List Int),(xl1 l xs).length<=l.length + xs.length
 | [],l => by simp [xl1]
 | x :: r, l => by
   have h1:=ya6 r (putZ l x)
   have h2:=zk6 x l
   simp only [xl1,List.foldl_cons,List.length_cons] at h1 ⊢
   omega
theorem sD_rep (N : Nat) : List.replicate N (D.bool false)=sD [] N:=by
 apply List.ext_getElem
 . simp [xj7]
 . intro i h1 h2
   simp [sD,sB]
theorem zm1 (g : Chg) : ∀ k,0 < k->(xh3 g k).2 ≠ []
 | 0,h => by omega
 | k + 1, _ => by
   rw [xl2]
   unfold yw7
   split
   . rename_i h
     cases k with
     | zero => simp [xh3] at h
     | succ k => exact zm1 g (k + 1) (by omega)
   . simp
def yl9 (out : List (List (Int × Int))) : AV:=match out with | [] => .e0 | _ :: _ => .sl 52
def objP (S : List Int) (N : Nat) (out : List (List (Int × Int))) : List (Nat × AO):=match out with | [] => [(13,.arr 4 1 (sD S N))] | x :: r => [(52,.arr 25 1 ((x :: r).map xp7)),(13,.arr 4 1 (sD S N))]
set_option maxHeartbeats 8000000 in
theorem yp4 (g : Chg) (hg : xc7 g=true) : Ctr Tryz.prog 49 [D.chg g] true (.d (.slice ((xb7 g).map xp7))) []:=by
 have hs:=(xd4 hg).1
 have hn8:=hs.1.2
 have hn1:=hs.1.1
 obtain ⟨N,hN⟩ : ∃ N : Nat,g.n=N:=⟨g.n.toNat,by omega⟩
 have hNt : ((N : Nat) : Int).toNat=N:=by omega
 refine Ctr.of (n:=54) (rs:=[.tmp 2]) Tryz.func49 rfl rfl Tryz.ntmps49 rfl rfl (by kernel_rfl) Tryz.checked.mixed ?_
 simp (disch:=first | omega | decide +kernel) only [D.chg,D.ints,hN,hNt,go_sem,Qa,Qb,Qc,Qd,Qe,↓reduceIte,reduceCtorEq,Qf,Qg,Qh]
 (repeat' (first | ((first | (refine xa0 ?_ ?_<;>intro q'<;>(have h':=q')<;>(try simp only [zz] at h')<;>try (exfalso; omega)) | (have q':=trivial; first | refine hE _ _ xa5 ?_ | refine hE _ _ xa2 ?_))<;>(try simp (disch:=first | omega | decide +kernel) only [q',hN,hNt,go_sem,Qa,Qb,Qc,Qd,Qe,↓reduceIte,reduceCtorEq,Qf,Qg,Qh])<;>clear q') | (with_reducible first | refine And.intro ?_ ?_ | omega) | exact xa6 | (refine xa1 ?_; omega) | (refine za9 ⟨?_,?_⟩) | (simp only [go_sem,Qc,Qb,zb1,zb2,forall_eq]; done)))
 rw [sD_rep]
 refine Ok.loopN [53,52,51,50,49,48,47,46,45,44,43,42,41,40,39,38,37,36,35,34,33,32,31,30,29,28,27,26,25,24,23,22,21,20,19,18,17,16,15,14,12,11,10,9,8,7,6,5,3] (fun i p => [(5,.d (.int .i64 (i : Nat))),(3,yl9 p.2)]) (fun _ (p : List Int × List (List (Int × Int))) => objP p.1 N p.2) N
  (fun i p => p=xh3 g i) ([],[]) rfl (by refine Wk.auto ?_ ?_<;>simp [xb1,lk,killL,St.kill,xb4,xb6,AV.has,AV.hasL,AO.wipe,List.map_set,xc2,insL,xc4,ins,yl9,objP]) ?_
 rintro R i p hN' hE hi hp
 have hle:=xr2 g i
 rw [← hp] at hle
 by_cases hlt : i < N
 . have hsu:=xl2 g i
   rw [← hp] at hsu
   obtain ⟨S,out⟩:=p
   unfold yw7 at hsu
   simp only at hsu hle
   have hes : el (sD S N) i=.bool (decide ((i : Int) ∈ S)):=zs3 hlt
   have hi0 : ((i : Nat) : Int).toNat=i:=by omega
   by_cases hm : (i : Int) ∈ S
   . rw [if_pos hm] at hsu
     rw [decide_eq_true hm] at hes
     cases out with
     | nil =>
       simp (disch:=first | omega | decide +kernel) only [hes,xj7,hi0,hN,yl9,objP,go_sem,Qa,Qb,Qc,Qd,Qe,↓reduceIte,reduceCtorEq,Qf,Qg,Qh]
       (repeat' (first | ((first | (refine xa0 ?_ ?_<;>intro q'<;>(have h':=q')<;>(try simp only [zz] at h')<;>try (exfalso; omega)) | (have q':=trivial; first | refine hE _ _ xa5 ?_ | refine hE _ _ xa2 ?_))<;>(try simp (disch:=first | omega | decide +kernel) only [q',hes,xj7,hi0,hN,go_sem,Qa,Qb,Qc,Qd,Qe,↓reduceIte,reduceCtorEq,Qf,Qg,Qh])<;>clear q') | (with_reducible first | refine And.intro ?_ ?_ | omega) | (refine xa1 ?_; omega)))
       refine hN' (S,[]) _ hlt hsu.symm (by refine Wk.auto ?_ ?_<;>simp [xb1,lk,killL,St.kill,xb4,xb6,AV.has,AV.hasL,AO.wipe,List.map_set,xc2,insL,xc4,ins,yl9,objP])
     | cons x r =>
       simp (disch:=first | omega | decide +kernel) only [hes,xj7,hi0,hN,yl9,objP,go_sem,Qa,Qb,Qc,Qd,Qe,↓reduceIte,reduceCtorEq,Qf,Qg,Qh]
       (repeat' (first | ((first | (refine xa0 ?_ ?_<;>intro q'<;>(have h':=q')<;>(try simp only [zz] at h')<;>try (exfalso; omega)) | (have q':=trivial; first | refine hE _ _ xa5 ?_ | refine hE _ _ xa2 ?_))<;>(try simp (disch:=first | omega | decide +kernel) only [q',hes,xj7,hi0,hN,go_sem,Qa,Qb,Qc,Qd,Qe,↓reduceIte,reduceCtorEq,Qf,Qg,Qh])<;>clear q') | (with_reducible first | refine And.intro ?_ ?_ | omega) | (refine xa1 ?_; omega)))
       refine hN' (S,x :: r) _ hlt hsu.symm (by refine Wk.auto ?_ ?_<;>simp [xb1,lk,killL,St.kill,xb4,xb6,AV.has,AV.hasL,AO.wipe,List.map_set,xc2,insL,xc4,ins,yl9,objP])
   . rw [if_neg hm] at hsu
     rw [decide_eq_false hm] at hes
     have hv : 0<=(i : Int)∧(i : Int) < g.n:=by omega
     have c1:=Ctr.tupN (ys:=[_,_]) (yu6 g i hg hv)
     have hlk:=xx1 hg hv
     have hll:=hlk.len
     have hpt:=sort_put hlk.nd
     generalize xh0 g i=l at *
     simp only [D.chg,D.ints,hN] at c1
     cases out with
     | nil =>
       simp (disch:=first | omega | decide +kernel) only [hes,xj7,hi0,hN,yl9,objP,go_sem,Qa,Qb,Qc,Qd,Qe,↓reduceIte,reduceCtorEq,Qf,Qg,Qh]
       (repeat' (first | ((first | (refine xa0 ?_ ?_<;>intro q'<;>(have h':=q')<;>(try simp only [zz] at h')<;>try (exfalso; omega)) | (have q':=trivial; first | refine xb3 (c1) rfl (by decide) ?_ | refine xb2 (c1) rfl ?_ | refine hE _ _ xa5 ?_ | refine hE _ _ xa2 ?_))<;>(try simp (disch:=first | omega | decide +kernel) only [q',hes,xj7,hi0,hN,D.chg,D.ints,go_sem,Qa,Qb,Qc,Qd,Qe,↓reduceIte,reduceCtorEq,Qf,Qg,Qh])<;>clear q') | (with_reducible first | refine And.intro ?_ ?_ | omega) | exact xa6 | (refine xa1 ?_; omega) | (refine za9 ⟨?_,?_⟩) | (simp only [go_sem,Qc,Qb,zb1,zb2,forall_eq]; done)))
       refine Ok.weak (Wk.frz (j:=30) rfl) ?_
       simp (disch:=first | omega | decide +kernel) only [St.frz,frzS,frzO,AV.frz,AV.frzL,AO.frz,go_sem,Qa,Qb,Qc,Qd,Qe,↓reduceIte,reduceCtorEq,Qf,Qg,Qh]
       refine Ok.loopN [53,52,51,50,49,48,47,46,45,44,43,42,41,40,39,38,37,36,35,34,33,32,31,9,8] (fun j (q : List Int × List Int) => [(9,.d (.int .i64 (j : Nat))),(8,.d (.slice (q.2.map (.int .i64))))]) (fun _ q => [(13,.arr 4 1 (sD q.1 N))]) l.length
        (fun j q => q.1=S++(l.take j).map (·.1)∧q.2=xl1 [] ((l.take j).map (·.1))) (S,[]) ⟨by simp,by simp [xl1]⟩ (Wk.kk) ?_
       rintro R2 j ⟨S',part⟩ hN2 hE hj ⟨hS',hP'⟩
       simp only at hS' hP'
       by_cases hjl : j < l.length
       . have hvx:=hlk.vx _ (xc0 (z:=((0 : Int),(0 : Int))) hjl)
         have htk : (l.take (j + 1)).map (·.1)=(l.take j).map (·.1)++[(l.getD j (0,0)).1]:=by rw [xf7 (0,0) l j hjl]; simp
         have hel : el (fstD l) j=.int .i64 (l.getD j (0,0)).1:=zf1 hjl
         generalize l.getD j (0,0)=y at *
         have hset:=zp8 (S:=S') (m:=N) (x:=y.1) (by omega)
         have hel2 : el (sD S' N) y.1.toNat=.bool (decide (((y.1.toNat : Nat) : Int) ∈ S')):=zs3 (by omega)
         have hpl:=ya6 ((l.take j).map (·.1)) []
         rw [← hP'] at hpl
         simp only [List.length_nil,List.length_map,List.length_take] at hpl
         have c2:=zm3 part y.1 (by omega)
         simp (disch:=first | omega | decide +kernel) only [xf5,hel,xj7,go_sem,Qa,Qb,Qc,Qd,Qe,↓reduceIte,reduceCtorEq,Qf,Qg,Qh]
         (repeat' (first | ((first | (refine xa0 ?_ ?_<;>intro q'<;>(have h':=q')<;>(try simp only [zz] at h')<;>try (exfalso; omega)) | (have q':=trivial; first | refine xb3 (c2) rfl (by decide) ?_ | refine xb2 (c2) rfl ?_ | refine hE _ _ xa5 ?_ | refine hE _ _ xa2 ?_))<;>(try simp (disch:=first | omega | decide +kernel) only [q',xf5,hel,hel2,xj7,hset,D.ints,go_sem,Qa,Qb,Qc,Qd,Qe,↓reduceIte,reduceCtorEq,Qf,Qg,Qh])<;>clear q') | (with_reducible first | refine And.intro ?_ ?_ | omega) | (refine xa1 ?_; omega)))
         refine hN2 (S'++[y.1],putZ part y.1) _ hjl ⟨by simp only [htk,hS',List.append_assoc],by simp only [htk,hP',ym6]⟩ (by refine Wk.auto ?_ ?_<;>simp [xb1,lk,killL,St.kill,xb4,xb6,AV.has,AV.hasL,AO.wipe,List.map_set,xc2,insL,xc4,ins,D.ints])
       . obtain rfl : j=l.length:=by omega
         rw [List.take_length] at hS' hP'
         rw [hpt] at hP'
         simp (disch:=first | omega | decide +kernel) only [xf5,go_sem,Qa,Qb,Qc,Qd,Qe,↓reduceIte,reduceCtorEq,Qf,Qg,Qh]
         (repeat' (first | ((first | (refine xa0 ?_ ?_<;>intro q'<;>(have h':=q')<;>(try simp only [zz] at h')<;>try (exfalso; omega)) | (have q':=trivial; first | refine hE _ _ xa5 ?_ | refine hE _ _ xa2 ?_))<;>(try simp (disch:=first | omega | decide +kernel) only [q',xf5,go_sem,Qa,Qb,Qc,Qd,Qe,↓reduceIte,reduceCtorEq,Qf,Qg,Qh])<;>clear q') | (with_reducible first | refine And.intro ?_ ?_ | omega) | exact xa6 | (refine xa1 ?_; omega) | (refine za9 ⟨?_,?_⟩) | (simp only [go_sem,Qc,Qb,zb1,zb2,forall_eq]; done)))
         all_goals (try (exfalso; omega))
         have hx : (S',[l])=xh3 g (i + 1):=by rw [hsu,hS']; rfl
         refine hN' (S',[l]) _ hlt hx (by refine Wk.auto ?_ ?_<;>simp [xb1,lk,killL,St.kill,xb4,xb6,AV.has,AV.hasL,AO.wipe,List.map_set,xc2,insL,xc4,ins,yl9,objP,xp7,hP'])
     | cons x r =>
       have hle2 : r.length + 1<=i:=hle
       simp (disch:=first | omega | decide +kernel) only [hes,xj7,hi0,hN,yl9,objP,go_sem,Qa,Qb,Qc,Qd,Qe,↓reduceIte,reduceCtorEq,Qf,Qg,Qh]
       (repeat' (first | ((first | (refine xa0 ?_ ?_<;>intro q'<;>(have h':=q')<;>(try simp only [zz] at h')<;>try (exfalso; omega)) | (have q':=trivial; first | refine xb3 (c1) rfl (by decide) ?_ | refine xb2 (c1) rfl ?_ | refine hE _ _ xa5 ?_ | refine hE _ _ xa2 ?_))<;>(try simp (disch:=first | omega | decide +kernel) only [q',hes,xj7,hi0,hN,D.chg,D.ints,go_sem,Qa,Qb,Qc,Qd,Qe,↓reduceIte,reduceCtorEq,Qf,Qg,Qh])<;>clear q') | (with_reducible first | refine And.intro ?_ ?_ | omega) | exact xa6 | (refine xa1 ?_; omega) | (refine za9 ⟨?_,?_⟩) | (simp only [go_sem,Qc,Qb,zb1,zb2,forall_eq]; done)))
       refine Ok.weak (Wk.frz (j:=30) rfl) ?_
       simp (disch:=first | omega | decide +kernel) only [St.frz,frzS,frzO,AV.frz,AV.frzL,AO.frz,go_sem,Qa,Qb,Qc,Qd,Qe,↓reduceIte,reduceCtorEq,Qf,Qg,Qh]
       refine Ok.loopN [53,52,51,50,49,48,47,46,45,44,43,42,41,40,39,38,37,36,35,34,33,32,31,9,8] (fun j (q : List Int × List Int) => [(9,.d (.int .i64 (j : Nat))),(8,.d (.slice (q.2.map (.int .i64))))]) (fun _ q => [(13,.arr 4 1 (sD q.1 N))]) l.length
        (fun j q => q.1=S++(l.take j).map (·.1)∧q.2=xl1 [] ((l.take j).map (·.1))) (S,[]) ⟨by simp,by simp [xl1]⟩ (Wk.kk) ?_
       rintro R2 j ⟨S',part⟩ hN2 hE hj ⟨hS',hP'⟩
       simp only at hS' hP'
       by_cases hjl : j < l.length
       . have hvx:=hlk.vx _ (xc0 (z:=((0 : Int),(0 : Int))) hjl)
         have htk : (l.take (j + 1)).map (·.1)=(l.take j).map (·.1)++[(l.getD j (0,0)).1]:=by rw [xf7 (0,0) l j hjl]; simp
         have hel : el (fstD l) j=.int .i64 (l.getD j (0,0)).1:=zf1 hjl
         generalize l.getD j (0,0)=y at *
         have hset:=zp8 (S:=S') (m:=N) (x:=y.1) (by omega)
         have hel2 : el (sD S' N) y.1.toNat=.bool (decide (((y.1.toNat : Nat) : Int) ∈ S')):=zs3 (by omega)
         have hpl:=ya6 ((l.take j).map (·.1)) []
         rw [← hP'] at hpl
         simp only [List.length_nil,List.length_map,List.length_take] at hpl
         have c2:=zm3 part y.1 (by omega)
         simp (disch:=first | omega | decide +kernel) only [xf5,hel,xj7,go_sem,Qa,Qb,Qc,Qd,Qe,↓reduceIte,reduceCtorEq,Qf,Qg,Qh]
         (repeat' (first | ((first | (refine xa0 ?_ ?_<;>intro q'<;>(have h':=q')<;>(try simp only [zz] at h')<;>try (exfalso; omega)) | (have q':=trivial; first | refine xb3 (c2) rfl (by decide) ?_ | refine xb2 (c2) rfl ?_ | refine hE _ _ xa5 ?_ | refine hE _ _ xa2 ?_))<;>(try simp (disch:=first | omega | decide +kernel) only [q',xf5,hel,hel2,xj7,hset,D.ints,go_sem,Qa,Qb,Qc,Qd,Qe,↓reduceIte,reduceCtorEq,Qf,Qg,Qh])<;>clear q') | (with_reducible first | refine And.intro ?_ ?_ | omega) | (refine xa1 ?_; omega)))
         refine hN2 (S'++[y.1],putZ part y.1) _ hjl ⟨by simp only [htk,hS',List.append_assoc],by simp only [htk,hP',ym6]⟩ (by refine Wk.auto ?_ ?_<;>simp [xb1,lk,killL,St.kill,xb4,xb6,AV.has,AV.hasL,AO.wipe,List.map_set,xc2,insL,xc4,ins,D.ints])
       . obtain rfl : j=l.length:=by omega
         rw [List.take_length] at hS' hP'
         rw [hpt] at hP'
         simp (disch:=first | omega | decide +kernel) only [xf5,go_sem,Qa,Qb,Qc,Qd,Qe,↓reduceIte,reduceCtorEq,Qf,Qg,Qh]
         (repeat' (first | ((first | (refine xa0 ?_ ?_<;>intro q'<;>(have h':=q')<;>(try simp only [zz] at h')<;>try (exfalso; omega)) | (have q':=trivial; first | refine hE _ _ xa5 ?_ | refine hE _ _ xa2 ?_))<;>(try simp (disch:=first | omega | decide +kernel) only [q',xf5,go_sem,Qa,Qb,Qc,Qd,Qe,↓reduceIte,reduceCtorEq,Qf,Qg,Qh])<;>clear q') | (with_reducible first | refine And.intro ?_ ?_ | omega) | exact xa6 | (refine xa1 ?_; omega) | (refine za9 ⟨?_,?_⟩) | (simp only [go_sem,Qc,Qb,zb1,zb2,forall_eq]; done)))
         all_goals (try (exfalso; omega))
         have hx : (S',x :: (r++[l]))=xh3 g (i + 1):=by rw [hsu,hS']; rfl
         refine hN' (S',x :: (r++[l])) _ hlt hx (by refine Wk.auto ?_ ?_<;>simp [xb1,lk,killL,St.kill,xb4,xb6,AV.has,AV.hasL,AO.wipe,List.map_set,xc2,insL,xc4,ins,yl9,objP,xp7,hP'])
 . obtain rfl : i=N:=by omega
   have hne:=zm1 g i (by omega)
   rw [← hp] at hne
   obtain ⟨S,out⟩:=p
   cases out with
   | nil => exact absurd rfl hne
   | cons x r =>
     have e : xb7 g=x :: r:=by
      unfold xb7
      rw [hN,hNt,← hp]
     simp (disch:=first | omega | decide +kernel) only [xj7,hN,yl9,objP,go_sem,Qa,Qb,Qc,Qd,Qe,↓reduceIte,reduceCtorEq,Qf,Qg,Qh]
     (repeat' (first | ((first | (refine xa0 ?_ ?_<;>intro q'<;>(have h':=q')<;>(try simp only [zz] at h')<;>try (exfalso; omega)) | (have q':=trivial; first | refine hE _ _ xa5 ?_ | refine hE _ _ xa2 ?_))<;>(try simp (disch:=first | omega | decide +kernel) only [q',xj7,hN,go_sem,Qa,Qb,Qc,Qd,Qe,↓reduceIte,reduceCtorEq,Qf,Qg,Qh])<;>clear q') | (with_reducible first | refine And.intro ?_ ?_ | omega) | (refine xa1 ?_; omega)))
     rw [e]
     exact ya1 [52] rfl
end Abs.Y

namespace Abs.Y
open Go Go.Proofs Abs
open Nat renaming reduceEqDiff -> Qa, reduceLT -> Qb, reduceAdd -> Qc, reduceMul -> Qd, reduceSub -> Qe, reduceLeDiff -> Qf, reduceSubDiff -> Qg, reduceBEq -> Qh
open Bool renaming not_eq_true' -> Ba, not_eq_false' -> Bb, and_eq_true -> Bc, or_eq_true -> Bh, or_eq_false_iff -> Be
open Int renaming ofNat_lt -> Ia, ofNat_le -> Ib, not_lt -> Ic, not_le -> Ie
open Decidable renaming not_not -> Da
set_option maxRecDepth 100000

def AdjG (g : Chg) (u v : Int) : Prop:=(u,v) ∈ g.ed∨(v,u) ∈ g.ed
theorem AdjG.symm {g : Chg} {u v : Int} (h : AdjG g u v) : AdjG g v u:=h.elim .inr .inl
inductive Conn (g : Chg) : Int->Int->Prop
 | refl (v : Int) : Conn g v v
 | step {u v w : Int} : Conn g u v->AdjG g v w->Conn g u w
theorem Conn.trans {g : Chg} {u v w : Int} (h1 : Conn g u v) (h2 : Conn g v w) : Conn g u w:=by
 induction h2 with
 | refl => exact h1
 | step _ h ih => exact .step ih h
theorem Conn.one {g : Chg} {u v : Int} (h : AdjG g u v) : Conn g u v:=.step (.refl u) h
theorem Conn.symm {g : Chg} {u v : Int} (h : Conn g u v) : Conn g v u:=by
 induction h with
 | refl => exact .refl _
 | step _ h ih => exact (Conn.one h.symm).trans ih
theorem zs4 {g : Chg} {e : Int × Int} (h : e ∈ g.ed) : ∃ k : Nat,k < g.ed.length∧g.ed.getD k (0,0)=e:=by
 obtain ⟨k,hk,rfl⟩:=List.mem_iff_getElem.1 h
 exact ⟨k,hk,by simp [List.getD_eq_getElem?_getD,hk]⟩
theorem yr7 {g : Chg} {v k : Int} (h : k ∈ xb0 g v) : AdjG g v (other g v k):=by
 obtain ⟨h1,h2,h3⟩:=xk5.1 h
 have hm:=xc0 (z:=((0 : Int),(0 : Int))) h2
 unfold other AdjG
 generalize g.ed.getD k.toNat (0,0)=e at *
 obtain ⟨p,q⟩:=e
 dsimp only at h3 hm ⊢
 rcases h3 with rfl | rfl
 . left; rw [show p + q - p=q by omega]; exact hm
 . right; rw [show p + q - q=p by omega]; exact hm
theorem edge_of_adj {g : Chg} {v w : Int} (h : AdjG g v w) : ∃ k ∈ xb0 g v,other g v k=w:=by
 rcases h with h | h
 . obtain ⟨k,hk,e⟩:=zs4 h
   refine ⟨(k : Int),xk5.2 ⟨by omega,by simpa using hk,?_⟩,?_⟩
   . rw [Int.toNat_natCast,e]; exact .inl rfl
   . unfold other; rw [Int.toNat_natCast,e]; dsimp only; omega
 . obtain ⟨k,hk,e⟩:=zs4 h
   refine ⟨(k : Int),xk5.2 ⟨by omega,by simpa using hk,?_⟩,?_⟩
   . rw [Int.toNat_natCast,e]; exact .inr rfl
   . unfold other; rw [Int.toNat_natCast,e]; dsimp only; omega
theorem xy9 {g : Chg} (hg : xc7 g=true) {v : Int} (hv : 0<=v∧v < g.n) {x : Int} : x ∈ (xh0 g v).map (·.1)↔Conn g v x:=by
 obtain ⟨h1,h2,h3,h4⟩:=xn6 hg hv
 obtain ⟨t,ht⟩:=xx0 h4
 constructor
 . have key : ∀ j,j < (xh0 g v).length->Conn g v ((xh0 g v).getD j (0,0)).1:=by
    intro j
    induction j using Nat.strongRecOn with
    | ind j ih =>
      intro hj
      by_cases h0 : j=0
      . subst h0; rw [ht]; exact .refl v
      . obtain ⟨i,hi,h5,h6⟩:=h2 j (by omega) hj
        have:=yr7 h5
        rw [h6] at this
        exact .step (ih i hi (by omega)) this
   intro hx
   obtain ⟨r,hr,rfl⟩:=List.mem_map.1 hx
   obtain ⟨j,hj,rfl⟩:=List.mem_iff_getElem.1 hr
   have:=key j hj
   rwa [show (xh0 g v).getD j (0,0)=(xh0 g v)[j] by simp [List.getD_eq_getElem?_getD,hj]] at this
 . intro h
   induction h with
   | refl => rw [ht]; simp
   | step _ ha ih =>
     obtain ⟨k,hk,rfl⟩:=edge_of_adj ha
     exact h3 _ ih k hk
open Classical in
noncomputable def minB (g : Chg) (v : Nat) : Bool:=decide (∀ u : Nat,u < v->¬ Conn g u v)
theorem xy7 {g : Chg} {v : Nat} : minB g v=true↔∀ u : Nat,u < v->¬ Conn g u v:=by simp [minB]
theorem xy8 {g : Chg} (hg : xc7 g=true) : ∀ k : Nat,(k : Int)<=g.n->(∀ x,x ∈ (xh3 g k).1↔∃ u : Nat,u < k∧Conn g u x)∧(xh3 g k).2=((List.range k).filter (minB g)).map fun v : Nat => xh0 g v
 | 0,_ => ⟨fun x => by simp [xh3],by simp [xh3]⟩
 | k + 1, h => by
   obtain ⟨h1,h2⟩:=xy8 hg k (by omega)
   have hv : (0 : Int)<=(k : Int)∧(k : Int) < g.n:=by omega
   rw [xl2,List.range_succ,List.filter_append,List.map_append,yw7]
   by_cases hk : (k : Int) ∈ (xh3 g k).1
   . rw [if_pos hk]
     obtain ⟨u,hu,hc⟩:=(h1 k).1 hk
     have hm : minB g k=false:=by
      rw [← Bool.not_eq_true,xy7]; exact fun h => h u hu hc
     refine ⟨fun x => ?_,?_⟩
     . rw [h1]
       constructor
       . rintro ⟨w,hw,hcw⟩; exact ⟨w,by omega,hcw⟩
       . rintro ⟨w,hw,hcw⟩
         by_cases hwk : w < k
         . exact ⟨w,hwk,hcw⟩
         . obtain rfl : w=k:=by omega
           exact ⟨u,hu,hc.trans hcw⟩
     . rw [h2]; simp [hm]
   . rw [if_neg hk]
     have hm : minB g k=true:=xy7.2 fun u hu hc => hk ((h1 k).2 ⟨u,hu,hc⟩)
     refine ⟨fun x => ?_,?_⟩
     . rw [List.mem_append,h1,xy9 hg hv]
       constructor
       . rintro (⟨w,hw,hcw⟩ | h)
         . exact ⟨w,by omega,hcw⟩
         . exact ⟨k,by omega,h⟩
       . rintro ⟨w,hw,hcw⟩
         by_cases hwk : w < k
         . exact .inl ⟨w,hwk,hcw⟩
         . obtain rfl : w=k:=by omega
           exact .inr hcw
     . rw [h2]; simp [hm]
open Classical in
noncomputable def xz9 (g : Chg) (v w : Nat) : Bool:=decide (Conn g v w)
theorem xo9 {g : Chg} {v w : Nat} : xz9 g v w=true↔Conn g v w:=by simp [xz9]
noncomputable def cmpV (g : Chg) (v : Nat) : List Int:=((List.range g.n.toNat).filter (xz9 g v)).map fun w : Nat => (w : Int)
theorem mem_compL {g : Chg} {v : Nat} {x : Int} : x ∈ cmpV g v↔∃ w : Nat,w < g.n.toNat∧Conn g v w∧x=w:=by
 unfold cmpV
 rw [List.mem_map]
 constructor
 . rintro ⟨w,hw,rfl⟩
   rw [List.mem_filter,List.mem_range,xo9] at hw
   exact ⟨w,hw.1,hw.2,rfl⟩
 . rintro ⟨w,h1,h2,rfl⟩
   exact ⟨w,by rw [List.mem_filter,List.mem_range,xo9]; exact ⟨h1,h2⟩,rfl⟩
theorem compL_asc (g : Chg) (v : Nat) : Asc (cmpV g v):=by
 unfold Asc cmpV
 rw [List.pairwise_map]
 exact ((List.pairwise_lt_range (n:=g.n.toNat)).sublist List.filter_sublist).imp fun h => by omega
theorem yt8 {g : Chg} (hg : xc7 g=true) : xg2 g=((List.range g.n.toNat).filter (minB g)).map (cmpV g):=by
 have hn : 0<=g.n:=by have:=(xd4 hg).1.1; omega
 unfold xg2 xb7
 rw [(xy8 hg g.n.toNat (by omega)).2,List.map_map]
 refine List.map_congr_left fun v hv => ?_
 have hv2:=List.mem_range.1 (List.mem_filter.1 hv).1
 have hvn : (0 : Int)<=(v : Int)∧(v : Int) < g.n:=by omega
 have hl:=xx1 hg hvn
 refine yz3 (yl8 hl.nd) (compL_asc g v) fun x => ?_
 show x ∈ xq4 ((xh0 g v).map (·.1))↔_
 rw [(xn3 _).mem_iff,xy9 hg hvn,mem_compL]
 constructor
 . intro hc
   have hx : x ∈ (xh0 g v).map (·.1):=(xy9 hg hvn).2 hc
   obtain ⟨r,hr,rfl⟩:=List.mem_map.1 hx
   have hb:=hl.vx r hr
   exact ⟨r.1.toNat,by omega,by rw [Int.toNat_of_nonneg hb.1]; exact hc,by omega⟩
 . rintro ⟨w,_,hc,rfl⟩; exact hc
end Abs.Y

namespace Abs.Y
open Go Go.Proofs Abs
open Nat renaming reduceEqDiff -> Qa, reduceLT -> Qb, reduceAdd -> Qc, reduceMul -> Qd, reduceSub -> Qe, reduceLeDiff -> Qf, reduceSubDiff -> Qg, reduceBEq -> Qh
open Bool renaming not_eq_true' -> Ba, not_eq_false' -> Bb, and_eq_true -> Bc, or_eq_true -> Bh, or_eq_false_iff -> Be
open Int renaming ofNat_lt -> Ia, ofNat_le -> Ib, not_lt -> Ic, not_le -> Ie
open Decidable renaming not_not -> Da
set_option maxRecDepth 100000

def rs (n : Nat) (f : Nat->Int) : Int:=(List.range n).foldl (fun s i => s + f i) 0
theorem yx0 (f : Nat->Int) : rs 0 f=0:=rfl
theorem xf1 (n : Nat) (f : Nat->Int) : rs (n + 1) f=rs n f + f n:=by simp [rs,List.range_succ]
theorem xm3 {f g : Nat->Int} : ∀ n,(∀ i,i < n->f i=g i)->rs n f=rs n g
 | 0,_ => rfl
 | n + 1,h => by rw [xf1,xf1,xm3 n fun i hi => h i (by omega),h n (by omega)]
theorem zv5 {f g : Nat->Int} {a b : Nat} (hab : a < b) (h2 : (f a + f b - (g a + g b)) % 2=0) : ∀ n,(∀ i,i < n->i ≠ a->i ≠ b->f i=g i) ->
 (b < n->(rs n f - rs n g) % 2=0)∧(a < n->n<=b->rs n f - rs n g=f a - g a)∧(n<=a->rs n f=rs n g)
 | 0,_ => ⟨fun h => absurd h (by omega),fun h => absurd h (by omega),fun _ => rfl⟩
 | n + 1, h => by
   obtain ⟨h3,h4,h5⟩:=zv5 hab h2 n fun i hi => h i (by omega)
   rw [xf1,xf1]
   refine ⟨fun hb => ?_,fun ha hb => ?_,fun ha => ?_⟩
   . by_cases hn : n=b
     . subst hn
       have:=h4 hab (Nat.le_refl _)
       omega
     . have:=h3 (by omega)
       have:=h n (by omega) (by omega) hn
       omega
   . by_cases hn : n=a
     . subst hn
       have:=h5 (Nat.le_refl _)
       omega
     . have:=h4 (by omega) (by omega)
       have:=h n (by omega) hn (by omega)
       omega
   . have:=h5 (by omega)
     have:=h n (by omega) (by omega) (by omega)
     omega
def delN (b w : Nat) : Nat:=if w < b then w else w + 1
end Abs.Y

namespace Abs.Y
open Go Go.Proofs Abs
open Nat renaming reduceEqDiff -> Qa, reduceLT -> Qb, reduceAdd -> Qc, reduceMul -> Qd, reduceSub -> Qe, reduceLeDiff -> Qf, reduceSubDiff -> Qg, reduceBEq -> Qh
open Bool renaming not_eq_true' -> Ba, not_eq_false' -> Bb, and_eq_true -> Bc, or_eq_true -> Bh, or_eq_false_iff -> Be
open Int renaming ofNat_lt -> Ia, ofNat_le -> Ib, not_lt -> Ic, not_le -> Ie
open Decidable renaming not_not -> Da
set_option maxRecDepth 100000

def sumP (g : Chg) (p : List Int) : Int:=(p.map fun v => g.ch.getD v.toNat 0).sum
theorem yc0 (p : Nat->Bool) (f : Int->Int) : ∀ n,((((List.range n).filter p).map fun w : Nat => (w : Int)).map f).sum=rs n fun w => if p w then f w else 0
 | 0 => rfl
 | n + 1 => by
   rw [xf1,List.range_succ,List.filter_append,List.map_append,List.map_append,List.sum_append,yc0 p f n]
   cases h : p n<;>simp [h]
noncomputable def ctS (g : Chg) (v w : Nat) : Int:=if xz9 g v w then g.ch.getD w 0 else 0
theorem sum_compL (g : Chg) (v : Nat) : sumP g (cmpV g v)=rs g.n.toNat (ctS g v):=by
 unfold sumP cmpV
 rw [yc0]
 exact xm3 _ fun i _ => by unfold ctS; rw [Int.toNat_natCast]
theorem yc4 {f : Nat->Int} : ∀ n,(∀ i,i < n->0<=f i)->0<=rs n f
 | 0,_ => Int.le_refl _
 | n + 1, h => by
   rw [xf1]
   have:=yc4 n fun i hi => h i (by omega)
   have:=h n (by omega)
   omega
structure GoodP (g : Chg) : Prop where
 n1 : 1<=g.n∧g.n<=8
 m : g.ed.length<=12
 c : (g.ch.length : Int)=g.n
 e : ∀ e ∈ g.ed,0<=e.1∧e.1 < e.2∧e.2 < g.n
 q : ∀ v,v < g.ch.length->0<=g.ch.getD v 0∧g.ch.getD v 0<=1
 d : ∀ v : Nat,v < g.ch.length->(xb0 g v).length<=4
theorem xf0 {g : Chg} : xc7 g=true↔GoodP g:=by
 constructor
 . intro h
   obtain ⟨⟨h1,h2,h3⟩,h4,h5⟩:=xd4 h
   refine ⟨h1,h2,h3,fun e he => ?_,fun v hv => ?_,fun v hv => ?_⟩
   . obtain ⟨k,hk,rfl⟩:=zs4 he
     exact of_decide_eq_true (h4 k hk)
   . have:=h5 v hv
     unfold chOk at this
     simp only [Bc,decide_eq_true_eq] at this
     exact this.1
   . have:=h5 v hv
     unfold chOk at this
     simp only [Bc,decide_eq_true_eq] at this
     exact this.2
 . intro h
   refine yg6 ⟨h.n1,h.m,h.c⟩ (fun k hk => zs5 (h.e _ (xc0 hk))) fun v hv => zt2 (h.q v hv) (h.d v hv)
theorem ctS_nonneg {g : Chg} (hg : GoodP g) (v : Nat) : ∀ i,i < g.n.toNat->0<=ctS g v i:=fun i hi => by
 unfold ctS
 have:=hg.c
 split
 . exact (hg.q i (by omega)).1
 . omega
def zy3 (ch : List Int) (e : Int × Int) : List Int:=(ch.set e.1.toNat (1 - ch.getD e.1.toNat 0)).set e.2.toNat (1 - ch.getD e.2.toNat 0)
def flipG (g : Chg) (k : Nat) : Chg:=⟨g.n,g.ed,zy3 g.ch (g.ed.getD k (0,0))⟩
end Abs.Y

namespace Abs.Y
open Go Go.Proofs Abs
open Nat renaming reduceEqDiff -> Qa, reduceLT -> Qb, reduceAdd -> Qc, reduceMul -> Qd, reduceSub -> Qe, reduceLeDiff -> Qf, reduceSubDiff -> Qg, reduceBEq -> Qh
open Bool renaming not_eq_true' -> Ba, not_eq_false' -> Bb, and_eq_true -> Bc, or_eq_true -> Bh, or_eq_false_iff -> Be
open Int renaming ofNat_lt -> Ia, ofNat_le -> Ib, not_lt -> Ic, not_le -> Ie
open Decidable renaming not_not -> Da
set_option maxRecDepth 100000

def mV (a b v : Int) : Int:=if v=b then a else if b < v then v - 1 else v
def mE (a b : Int) (e : Int × Int) : Int × Int:=(min (mV a b e.1) (mV a b e.2),max (mV a b e.1) (mV a b e.2))
def zw5 (a b : Int) (ed : List (Int × Int)) : List (Int × Int):=(ed.filter fun e => mV a b e.1 != mV a b e.2).map (mE a b)
def mergeC (a b : Nat) (ch : List Int) : List Int:=(List.range (ch.length - 1)).map fun w => if w=a then (ch.getD a 0 + ch.getD b 0) % 2 else ch.getD (delN b w) 0
def zw4 (g : Chg) (k : Nat) : Chg:=⟨g.n - 1,zw5 (g.ed.getD k (0,0)).1 (g.ed.getD k (0,0)).2 g.ed,mergeC (g.ed.getD k (0,0)).1.toNat (g.ed.getD k (0,0)).2.toNat g.ch⟩
def dV (b x : Int) : Int:=if x < b then x else x + 1
theorem zq0 {f g : Nat->Int} {a : Nat} : ∀ n,(∀ i,i < n->i ≠ a->f i=g i)->rs n f - rs n g=if a < n then f a - g a else 0
 | 0,_ => rfl
 | n + 1, h => by
   have ih:=zq0 (f:=f) (g:=g) (a:=a) n fun i hi => h i (by omega)
   rw [xf1,xf1]
   by_cases hn : n=a
   . subst hn
     rw [if_neg (by omega)] at ih
     rw [if_pos (by omega)]; omega
   . have:=h n (by omega) hn
     by_cases ha : a < n
     . rw [if_pos ha] at ih; rw [if_pos (by omega)]; omega
     . rw [if_neg ha] at ih; rw [if_neg (by omega)]; omega
section
variable {g : Chg} (hg : GoodP g) {a b : Nat} (hab : ((a : Int),(b : Int)) ∈ g.ed) {m : Chg} (hm : m.ed=zw5 a b g.ed)
include hg hab
include hm
omit hm in
end
end Abs.Y

namespace Abs.Y
open Go Go.Proofs Abs
open Nat renaming reduceEqDiff -> Qa, reduceLT -> Qb, reduceAdd -> Qc, reduceMul -> Qd, reduceSub -> Qe, reduceLeDiff -> Qf, reduceSubDiff -> Qg, reduceBEq -> Qh
open Bool renaming not_eq_true' -> Ba, not_eq_false' -> Bb, and_eq_true -> Bc, or_eq_true -> Bh, or_eq_false_iff -> Be
open Int renaming ofNat_lt -> Ia, ofNat_le -> Ib, not_lt -> Ic, not_le -> Ie
open Decidable renaming not_not -> Da
set_option maxRecDepth 100000

def eb (g : Chg) (x v : Nat) : Int:=rs g.ed.length fun k => if atB g v k then bitI x k else 0
def satV (g : Chg) (x v : Nat) : Bool:=decide ((g.ch.getD v 0 + eb g x v) % 2=0)
def satG (g : Chg) (x : Nat) : Bool:=(List.range g.n.toNat).all (satV g x)
def cntG (g : Chg) : Nat:=((List.range (2 ^ g.ed.length)).filter (satG g)).length
theorem zi7 {g : Chg} {v k : Nat} : atB g v k=true↔(v : Int)=(g.ed.getD k (0,0)).1∨(v : Int)=(g.ed.getD k (0,0)).2:=by
 unfold atB
 rw [Bh,decide_eq_true_eq,decide_eq_true_eq]
 constructor<;>rintro (h | h)<;>first | exact .inl h.symm | exact .inr h.symm
def remG (g : Chg) (k : Nat) (b : Int) : Chg:=⟨g.n,g.ed.eraseIdx k,if b=1 then zy3 g.ch (g.ed.getD k (0,0)) else g.ch⟩
def insB (y k b : Nat) : Nat:=2 ^ k * (2 * (y / 2 ^ k) + b) + y % 2 ^ k
theorem zj9 (f h : Nat->Int) : ∀ n,rs n (fun i => f i + h i)=rs n f + rs n h
 | 0 => rfl
 | n + 1 => by rw [xf1,xf1,xf1,zj9 f h n]; omega
theorem rs_z (m : Nat) : rs m (fun _ => 0)=0:=by
 induction m with
 | zero => rfl
 | succ m ih => rw [xf1,ih]; rfl
theorem zg5 (F : Nat->Nat->Int) (m : Nat) : ∀ n,rs n (fun v => rs m (F v))=rs m fun k => rs n fun v => F v k
 | 0 => by
   rw [yx0]
   have:=rs_z m
   simpa [yx0] using this.symm
 | n + 1 => by
   rw [xf1,zg5 F m n,← zj9]
   exact xm3 _ fun k _ => by rw [xf1]
end Abs.Y
