/- What functions of this program compute, over plain data. No condition. -/
import Derived.Test.YtkccabajcdphkaaGreatK5
import Derived.Test.YtkccabajcdphkaaGreatAbsBox
import Derived.Test.YtkccabajcdphkaaGreatK2
set_option linter.all false
open Nat renaming reduceEqDiff -> Qa, reduceLT -> Qb, reduceAdd -> Qc, reduceMul -> Qd, reduceSub -> Qe, reduceLeDiff -> Qf, reduceSubDiff -> Qg, reduceBEq -> Qh
open Bool renaming not_eq_true' -> Ba, not_eq_false' -> Bb, and_eq_true -> Bc, or_eq_true -> Bh, or_eq_false_iff -> Be
open Int renaming ofNat_lt -> Ia, ofNat_le -> Ib, not_lt -> Ic, not_le -> Ie
open Decidable renaming not_not -> Da
namespace Abs.Y
open Go Go.Proofs Abs
set_option maxRecDepth 100000

theorem zf1 {l : List (Int × Int)} {i : Nat} (h : i < l.length) : el (l.map fun r => D.int .i64 r.1) i=.int .i64 (l.getD i (0,0)).1:=xv3 (f:=fun r : Int × Int => D.int .i64 r.1) (0,0) h
theorem has_fst (l : List (Int × Int)) (x : Int) : (l.map (·.1)).any (· == x)=hasV l x:=by
 unfold hasV; rw [List.any_map]; rfl
def fstD (l : List (Int × Int)) : List D:=l.map fun r => D.int .i64 r.1
def sndD (l : List (Int × Int)) : List D:=l.map fun r => D.int .i64 r.2
theorem xf5 {l : List (Int × Int)} : (fstD l).length=l.length:=by simp [fstD]
theorem yc2 {l : List (Int × Int)} : (sndD l).length=l.length:=by simp [sndD]
set_option maxHeartbeats 8000000 in
theorem yu6 (g : Chg) (v : Int) (hg : xc7 g=true) (hv : 0<=v∧v < g.n) :
 Ctr Tryz.prog 50 [D.chg g,.int .i64 v] true (.tup [.d (.slice (fstD (xh0 g v))),.d (.slice (sndD (xh0 g v)))]) []:=by
 have hs:=(xd4 hg).1
 have hn8:=hs.1.2
 have hed:=hs.2.1
 refine Ctr.of (n:=74) (rs:=[.tmp 4,.tmp 5]) Tryz.func50 rfl rfl Tryz.ntmps50 rfl rfl (by kernel_rfl) Tryz.checked.mixed ?_
 simp (disch:=first | omega | decide +kernel) only [D.chg,D.ints,go_sem,Qa,Qb,Qc,Qd,Qe,↓reduceIte,reduceCtorEq,Qf,Qg,Qh]
 (repeat' (first | ((first | (refine xa0 ?_ ?_<;>intro q'<;>(have h':=q')<;>(try simp only [zz] at h')<;>try (exfalso; omega)) | (have q':=trivial; first | refine hE _ _ xa5 ?_ | refine hE _ _ xa2 ?_))<;>(try simp (disch:=first | omega | decide +kernel) only [q',go_sem,Qa,Qb,Qc,Qd,Qe,↓reduceIte,reduceCtorEq,Qf,Qg,Qh])<;>clear q') | (with_reducible first | refine And.intro ?_ ?_ | omega) | exact xa6 | (refine xa1 ?_; omega) | (refine za9 ⟨?_,?_⟩) | (simp only [go_sem,Qc,Qb,zb1,zb2,forall_eq]; done)))
 refine Ok.loopU [71,70,69,68,67,66,65,64,63,62,61,60,59,58,57,56,55,54,53,52,51,50,49,48,47,46,45,44,43,42,41,40,39,38,37,36,35,34,33,32,31,30,29,28,27,26,25,24,23,22,21,20,19,18,17,16,15,14,13,12,11,10,9,8,7,6,3,1,0] (fun (p : Nat × List (Int × Int)) => [(8,.d (.int .i64 (p.1 : Nat))),(7,.sl 14),(6,.sl 13)]) (fun p => [(14,.arr 3 1 (sndD p.2)),(13,.arr 3 1 (fstD p.2))])
  (fun n p => n + p.1=9∧LinOk g p.2∧p.1<=p.2.length∧xv4 g n p.1 p.2=xh0 g v) 9 (0,[(v,-1)]) ⟨by simp,yd9 hg hv,by simp,rfl⟩ (by refine Wk.auto ?_ ?_<;>simp [xb1,lk,killL,St.kill,xb4,xb6,AV.has,AV.hasL,AO.wipe,List.map_set,xc2,insL,xc4,ins,fstD,sndD]) ?_
 rintro R n ⟨i,out⟩ hN hE ⟨hni,hlo,hil,hfl⟩
 simp only at hni hlo hil hfl
 have hol:=hlo.len
 by_cases hlt : i < out.length
 . obtain ⟨m,rfl⟩ : ∃ m,n=m + 1:=⟨n - 1,by omega⟩
   rw [yu3 hlt] at hfl
   have hvx:=hlo.vx _ (xc0 (z:=((0 : Int),(0 : Int))) hlt)
   unfold zo8 at hfl
   have hel : el (fstD out) i=.int .i64 (out.getD i (0,0)).1:=zf1 hlt
   generalize hnow : (out.getD i (0,0)).1=now at *
   have c1:=Ctr.data1 (ye0 g now (by omega))
   have hle:=xg4 g now g.ed.length
   change (xb0 g now).length<=_ at hle
   simp (disch:=first | omega | decide +kernel) only [xf5,hel,go_sem,Qa,Qb,Qc,Qd,Qe,↓reduceIte,reduceCtorEq,Qf,Qg,Qh]
   (repeat' (first | ((first | (refine xa0 ?_ ?_<;>intro q'<;>(have h':=q')<;>(try simp only [zz] at h')<;>try (exfalso; omega)) | (have q':=trivial; first | refine xb3 (c1) rfl (by decide) ?_ | refine xb2 (c1) rfl ?_ | refine hE _ _ xa5 ?_ | refine hE _ _ xa2 ?_))<;>(try simp (disch:=first | omega | decide +kernel) only [q',xf5,hel,D.chg,D.ints,go_sem,Qa,Qb,Qc,Qd,Qe,↓reduceIte,reduceCtorEq,Qf,Qg,Qh])<;>clear q') | (with_reducible first | refine And.intro ?_ ?_ | omega) | (refine xa1 ?_; omega)))
   have hgl : LinOk g (xp8 g now (xb0 g now) out):=xu8 hg (fun k h => h) hlo
   have hpl:=(xt3 (g:=g) (now:=now) (ks:=xb0 g now) (out:=out)).length_le
   have hed':=fun k (hk : k ∈ xb0 g now) => zw8 hg hk
   have hgr:=fun ks (hk : ∀ k ∈ ks,k ∈ xb0 g now) => xu8 hg hk hlo
   clear c1
   generalize xb0 g now=ks at *
   refine Ok.loopN [71,70,69,68,67,66,65,64,63,62,61,60,59,58,57,56,55,54,53,52,51,50,49,48,47,46,45,44,43,42,41,40,39,38,37,36,35,34,33,32,31,30,29,28,27,24,22,16,14,13,12,11,10,7,6,3,1,0] (fun j _ => [(10,.d (.int .i64 (j : Nat))),(7,.sl 14),(6,.sl 13)]) (fun _ (cur : List (Int × Int)) => [(14,.arr 3 1 (sndD cur)),(13,.arr 3 1 (fstD cur))]) ks.length
    (fun j cur => cur=xp8 g now (ks.take j) out) out (by simp [xp8]) (Wk.kk) ?_
   rintro R2 j cur hN2 hE hj rfl
   by_cases hjl : j < ks.length
   . have hkm : ks.getD j 0 ∈ ks:=xc0 hjl
     have hlc:=hgr (ks.take j) fun k h => List.mem_of_mem_take h
     have hcl:=hlc.len
     have hsu : xp8 g now (ks.take (j + 1)) out=xz8 g now (xp8 g now (ks.take j) out) (ks.getD j 0):=by rw [xf7 0 ks j hjl]; simp [xp8]
     obtain ⟨k0,kl,a0,a1,b0,b1⟩:=hed' _ hkm
     have hek : el (List.map (D.int .i64) ks) j=.int .i64 (ks.getD j 0):=xl3 hjl
     generalize hkj : ks.getD j 0=k at *
     have hpre : out <+: xp8 g now (ks.take j) out:=xt3
     have heo : el (fstD (xp8 g now (ks.take j) out)) i=.int .i64 now:=by
      rw [show fstD _=List.map (fun r : Int × Int => D.int .i64 r.1) _ from rfl,zf1 (Nat.lt_of_lt_of_le hlt hpre.length_le)]
      obtain ⟨t,ht⟩:=hpre
      rw [← ht,List.getD_eq_getElem?_getD,List.getElem?_append_left hlt,← List.getD_eq_getElem?_getD,hnow]
     have hcl2:=hpre.length_le
     generalize xp8 g now (ks.take j) out=cur at *
     have c2:=l1Has_ok (cur.map (·.1)) (other g now k) (by simp; omega)
     rw [has_fst,show D.ints (cur.map (·.1))=D.slice (fstD cur) by simp [D.ints,fstD,Function.comp_def]] at c2
     cases hb : hasV cur (other g now k) with
     | true =>
       rw [hb] at c2
       unfold xz8 at hsu
       rw [hb,if_pos rfl] at hsu
       unfold other at c2
       simp (disch:=first | omega | decide +kernel) only [xg3,xl9,xm9,xd0,xf5,yc2,heo,hek,go_sem,Qa,Qb,Qc,Qd,Qe,↓reduceIte,reduceCtorEq,Qf,Qg,Qh]
       (repeat' (first | ((first | (refine xa0 ?_ ?_<;>intro q'<;>(have h':=q')<;>(try simp only [zz] at h')<;>try (exfalso; omega)) | (have q':=trivial; first | refine xa3 (c2) rfl (by decide) ?_ | refine xa4 (c2) rfl ?_ | refine hE _ _ xa5 ?_ | refine hE _ _ xa2 ?_))<;>(try simp (disch:=first | omega | decide +kernel) only [q',xg3,xl9,xm9,xd0,xf5,yc2,heo,hek,D.ints,go_sem,Qa,Qb,Qc,Qd,Qe,↓reduceIte,reduceCtorEq,Qf,Qg,Qh])<;>clear q') | (with_reducible first | refine And.intro ?_ ?_ | omega) | (refine xa1 ?_; omega)))
       refine hN2 cur _ hjl hsu.symm (by refine Wk.auto ?_ ?_<;>simp [xb1,lk,killL,St.kill,xb4,xb6,AV.has,AV.hasL,AO.wipe,List.map_set,xc2,insL,xc4,ins,])
     | false =>
       rw [hb] at c2
       unfold xz8 at hsu
       rw [hb,if_neg (by simp)] at hsu
       unfold other at c2 hsu
       simp (disch:=first | omega | decide +kernel) only [xg3,xl9,xm9,xd0,xf5,yc2,heo,hek,go_sem,Qa,Qb,Qc,Qd,Qe,↓reduceIte,reduceCtorEq,Qf,Qg,Qh]
       (repeat' (first | ((first | (refine xa0 ?_ ?_<;>intro q'<;>(have h':=q')<;>(try simp only [zz] at h')<;>try (exfalso; omega)) | (have q':=trivial; first | refine xa3 (c2) rfl (by decide) ?_ | refine xa4 (c2) rfl ?_ | refine hE _ _ xa5 ?_ | refine hE _ _ xa2 ?_))<;>(try simp (disch:=first | omega | decide +kernel) only [q',xg3,xl9,xm9,xd0,xf5,yc2,heo,hek,D.ints,go_sem,Qa,Qb,Qc,Qd,Qe,↓reduceIte,reduceCtorEq,Qf,Qg,Qh])<;>clear q') | (with_reducible first | refine And.intro ?_ ?_ | omega) | exact xa6 | (refine xa1 ?_; omega) | (refine za9 ⟨?_,?_⟩) | (simp only [go_sem,Qc,Qb,zb1,zb2,forall_eq]; done)))
       refine hN2 _ _ hjl hsu.symm (by refine Wk.auto ?_ ?_<;>simp [xb1,lk,killL,St.kill,xb4,xb6,AV.has,AV.hasL,AO.wipe,List.map_set,xc2,insL,xc4,ins,fstD,sndD])
   . obtain rfl : j=ks.length:=by omega
     rw [List.take_length]
     simp (disch:=first | omega | decide +kernel) only [go_sem,Qa,Qb,Qc,Qd,Qe,↓reduceIte,reduceCtorEq,Qf,Qg,Qh]
     (repeat' (first | ((first | (refine xa0 ?_ ?_<;>intro q'<;>(have h':=q')<;>(try simp only [zz] at h')<;>try (exfalso; omega)) | (have q':=trivial; first | refine hE _ _ xa5 ?_ | refine hE _ _ xa2 ?_))<;>(try simp (disch:=first | omega | decide +kernel) only [q',go_sem,Qa,Qb,Qc,Qd,Qe,↓reduceIte,reduceCtorEq,Qf,Qg,Qh])<;>clear q') | (with_reducible first | refine And.intro ?_ ?_ | omega) | (refine xa1 ?_; omega)))
     refine hN m (i + 1,xp8 g now ks out) _ (by omega) ⟨by simp only; omega,hgl,by simp only; omega,hfl⟩ (by refine Wk.auto ?_ ?_<;>simp [xb1,lk,killL,St.kill,xb4,xb6,AV.has,AV.hasL,AO.wipe,List.map_set,xc2,insL,xc4,ins,])
 . rw [zd0 hlt] at hfl
   simp (disch:=first | omega | decide +kernel) only [xf5,go_sem,Qa,Qb,Qc,Qd,Qe,↓reduceIte,reduceCtorEq,Qf,Qg,Qh]
   (repeat' (first | ((first | (refine xa0 ?_ ?_<;>intro q'<;>(have h':=q')<;>(try simp only [zz] at h')<;>try (exfalso; omega)) | (have q':=trivial; first | refine xa3 (xf5) rfl (by decide) ?_ | refine xa4 (xf5) rfl ?_ | refine hE _ _ xa5 ?_ | refine hE _ _ xa2 ?_))<;>(try simp (disch:=first | omega | decide +kernel) only [q',go_sem,Qa,Qb,Qc,Qd,Qe,↓reduceIte,reduceCtorEq,Qf,Qg,Qh])<;>clear q') | (with_reducible first | refine And.intro ?_ ?_ | omega) | (refine xa1 ?_; omega)))
   rw [← hfl]
   exact zq2 [13,14] rfl rfl
end Abs.Y

namespace Abs.Y
open Go Go.Proofs Abs
set_option maxRecDepth 100000

def sB (S : List Int) (m : Nat) : List Bool:=(List.range m).map fun i : Nat => decide ((i : Int) ∈ S)
def sD (S : List Int) (m : Nat) : List D:=(sB S m).map D.bool
theorem sB_len {S m} : (sB S m).length=m:=by simp [sB]
theorem xj7 {S m} : (sD S m).length=m:=by simp [sD,sB]
theorem sD_nil : sD [] 8=[D.bool false,D.bool false,D.bool false,D.bool false,D.bool false,D.bool false,D.bool false,D.bool false]:=rfl
theorem zs3 {S : List Int} {m i : Nat} (h : i < m) : el (sD S m) i=.bool (decide ((i : Int) ∈ S)):=by
 rw [sD,xv3 (f:=D.bool) false (by rw [sB_len]; exact h)]
 congr 1
 simp [sB,List.getD_eq_getElem?_getD,h]
theorem zp8 {S : List Int} {m : Nat} {x : Int} (h : 0<=x∧x < m) : (sD S m).set x.toNat (.bool true)=sD (S++[x]) m:=by
 apply List.ext_getElem
 . simp [xj7]
 . intro i h1 h2
   rw [List.getElem_set]
   simp only [sD,sB,List.getElem_map,List.getElem_range]
   split
   . rename_i he
     have : (i : Int)=x:=by omega
     simp [this]
   . rename_i he
     congr 1
     have : ¬ (i : Int)=x:=by omega
     simp [this]
def yw7 (g : Chg) (p : List Int × List (List (Int × Int))) (v : Nat) : List Int × List (List (Int × Int)):=if (v : Int) ∈ p.1 then p else (p.1++(xh0 g v).map (·.1),p.2++[xh0 g v])
def xh3 (g : Chg) (k : Nat) : List Int × List (List (Int × Int)):=(List.range k).foldl (yw7 g) ([],[])
def xb7 (g : Chg) : List (List (Int × Int)):=(xh3 g g.n.toNat).2
theorem xl2 (g : Chg) (k : Nat) : xh3 g (k + 1)=yw7 g (xh3 g k) k:=by simp [xh3,List.range_succ]
theorem xr2 (g : Chg) : ∀ k,(xh3 g k).2.length<=k
 | 0 => by simp [xh3]
 | k + 1 => by
   rw [xl2]; have:=xr2 g k
   unfold yw7; split
   . omega
   . simp; omega
theorem xx1 {g : Chg} (hg : xc7 g=true) {v : Int} (hv : 0<=v∧v < g.n) : LinOk g (xh0 g v):=by
 have h : ∀ (f i : Nat) (out : List (Int × Int)),LinOk g out->LinOk g (xv4 g f i out):=by
  intro f
  induction f with
  | zero => exact fun i out h => h
  | succ f ih =>
    intro i out h
    rw [xv4]
    split
    . exact ih _ _ (xu8 hg (fun k h => h) h)
    . exact h
 exact h _ _ _ (yd9 hg hv)
def D.lin (l : List (Int × Int)) : D:=.slice (l.map D.ed)
set_option maxHeartbeats 8000000 in
theorem zm0 (g : Chg) (hg : xc7 g=true) : Ctr Tryz.prog 46 [D.chg g] true (.d (.slice ((xb7 g).map D.lin))) []:=by
 have hs:=(xd4 hg).1
 have hn8:=hs.1.2
 have hn1:=hs.1.1
 refine Ctr.of (n:=36) (rs:=[.tmp 2]) Tryz.func46 rfl rfl Tryz.ntmps46 rfl rfl (by kernel_rfl) Tryz.checked.mixed ?_
 simp (disch:=first | omega | decide +kernel) only [D.chg,D.ints,go_sem,Qa,Qb,Qc,Qd,Qe,↓reduceIte,reduceCtorEq,Qf,Qg,Qh]
 (repeat' (first | ((first | (refine xa0 ?_ ?_<;>intro q'<;>(have h':=q')<;>(try simp only [zz] at h')<;>try (exfalso; omega)) | (have q':=trivial; first | refine hE _ _ xa5 ?_ | refine hE _ _ xa2 ?_))<;>(try simp (disch:=first | omega | decide +kernel) only [q',go_sem,Qa,Qb,Qc,Qd,Qe,↓reduceIte,reduceCtorEq,Qf,Qg,Qh])<;>clear q') | (with_reducible first | refine And.intro ?_ ?_ | omega) | exact xa6 | (refine xa1 ?_; omega) | (refine za9 ⟨?_,?_⟩) | (simp only [go_sem,Qc,Qb,zb1,zb2,forall_eq]; done)))
 refine Ok.loopN [35,34,33,32,31,30,29,28,27,26,25,24,23,22,21,20,19,18,17,16,15,14,13,12,11,8,7,6,5,3] (fun i _ => [(11,.d (.int .i64 (i : Nat))),(3,.sl 3)]) (fun _ (p : List Int × List (List (Int × Int))) => [(4,.arv 114 1 (sD p.1 8)),(3,.arr 71 1 (p.2.map D.lin))]) g.n.toNat
  (fun i p => p=xh3 g i) ([],[]) rfl (by refine Wk.auto ?_ ?_<;>simp [xb1,lk,killL,St.kill,xb4,xb6,AV.has,AV.hasL,AO.wipe,List.map_set,xc2,insL,xc4,ins,sD_nil]) ?_
 rintro R i p hN hE hi hp
 have hle:=xr2 g i
 rw [← hp] at hle
 by_cases hlt : i < g.n.toNat
 . have hsu:=xl2 g i
   rw [← hp] at hsu
   obtain ⟨S,out⟩:=p
   unfold yw7 at hsu
   simp only at hsu hle
   have hes : el (sD S 8) i=.bool (decide ((i : Int) ∈ S)):=zs3 (by omega)
   have hi0 : ((i : Nat) : Int).toNat=i:=by omega
   by_cases hm : (i : Int) ∈ S
   . rw [if_pos hm] at hsu
     rw [decide_eq_true hm] at hes
     simp (disch:=first | omega | decide +kernel) only [hes,xj7,hi0,go_sem,Qa,Qb,Qc,Qd,Qe,↓reduceIte,reduceCtorEq,Qf,Qg,Qh]
     (repeat' (first | ((first | (refine xa0 ?_ ?_<;>intro q'<;>(have h':=q')<;>(try simp only [zz] at h')<;>try (exfalso; omega)) | (have q':=trivial; first | refine hE _ _ xa5 ?_ | refine hE _ _ xa2 ?_))<;>(try simp (disch:=first | omega | decide +kernel) only [q',hes,xj7,hi0,go_sem,Qa,Qb,Qc,Qd,Qe,↓reduceIte,reduceCtorEq,Qf,Qg,Qh])<;>clear q') | (with_reducible first | refine And.intro ?_ ?_ | omega) | (refine xa1 ?_; omega)))
     refine hN (S,out) _ hlt hsu.symm (by refine Wk.auto ?_ ?_<;>simp [xb1,lk,killL,St.kill,xb4,xb6,AV.has,AV.hasL,AO.wipe,List.map_set,xc2,insL,xc4,ins,])
   . rw [if_neg hm] at hsu
     rw [decide_eq_false hm] at hes
     have hv : 0<=(i : Int)∧(i : Int) < g.n:=by omega
     have c1:=Ctr.data1 (line_ok g i hg hv)
     have hlk:=xx1 hg hv
     have hll:=hlk.len
     generalize xh0 g i=l at *
     simp (disch:=first | omega | decide +kernel) only [hes,xj7,hi0,go_sem,Qa,Qb,Qc,Qd,Qe,↓reduceIte,reduceCtorEq,Qf,Qg,Qh]
     (repeat' (first | ((first | (refine xa0 ?_ ?_<;>intro q'<;>(have h':=q')<;>(try simp only [zz] at h')<;>try (exfalso; omega)) | (have q':=trivial; first | refine xb3 (c1) rfl (by decide) ?_ | refine xb2 (c1) rfl ?_ | refine hE _ _ xa5 ?_ | refine hE _ _ xa2 ?_))<;>(try simp (disch:=first | omega | decide +kernel) only [q',hes,xj7,hi0,D.chg,D.ints,go_sem,Qa,Qb,Qc,Qd,Qe,↓reduceIte,reduceCtorEq,Qf,Qg,Qh])<;>clear q') | (with_reducible first | refine And.intro ?_ ?_ | omega) | (refine xa1 ?_; omega)))
     refine Ok.loopN [35,34,33,32,31,30,29,28,27,26,25,24,23,22,15,8] (fun j _ => [(22,.d (.int .i64 (j : Nat)))]) (fun _ (S' : List Int) => [(4,.arv 114 1 (sD S' 8))]) l.length
      (fun j S' => S'=S++(l.take j).map (·.1)) S (by simp) (Wk.kk) ?_
     rintro R2 j S' hN2 hE hj rfl
     by_cases hjl : j < l.length
     . have hvx:=hlk.vx _ (xc0 (z:=((0 : Int),(0 : Int))) hjl)
       have htk : (l.take (j + 1)).map (·.1)=(l.take j).map (·.1)++[(l.getD j (0,0)).1]:=by rw [xf7 (0,0) l j hjl]; simp
       have hel : el (List.map D.ed l) j=.agg [.int .i64 (l.getD j (0,0)).1,.int .i64 (l.getD j (0,0)).2]:=xg3 hjl
       generalize l.getD j (0,0)=r at *
       have hset:=zp8 (S:=S++(l.take j).map (·.1)) (m:=8) (x:=r.1) (by omega)
       have hel2 : el (sD (S++(l.take j).map (·.1)) 8) r.1.toNat=.bool (decide (((r.1.toNat : Nat) : Int) ∈ S++(l.take j).map (·.1))):=zs3 (by omega)
       generalize hS' : S++(l.take j).map (·.1)=S' at *
       simp (disch:=first | omega | decide +kernel) only [hel,xj7,xl9,xm9,go_sem,Qa,Qb,Qc,Qd,Qe,↓reduceIte,reduceCtorEq,Qf,Qg,Qh]
       (repeat' (first | ((first | (refine xa0 ?_ ?_<;>intro q'<;>(have h':=q')<;>(try simp only [zz] at h')<;>try (exfalso; omega)) | (have q':=trivial; first | refine hE _ _ xa5 ?_ | refine hE _ _ xa2 ?_))<;>(try simp (disch:=first | omega | decide +kernel) only [q',hel,hel2,xj7,hset,xl9,xm9,go_sem,Qa,Qb,Qc,Qd,Qe,↓reduceIte,reduceCtorEq,Qf,Qg,Qh])<;>clear q') | (with_reducible first | refine And.intro ?_ ?_ | omega) | exact xa6 | (refine xa1 ?_; omega) | (refine za9 ⟨?_,?_⟩) | (simp only [go_sem,Qc,Qb,zb1,zb2,forall_eq]; done)))
       refine hN2 _ _ hjl (by rw [htk,← List.append_assoc,hS']) (by refine Wk.auto ?_ ?_<;>simp [xb1,lk,killL,St.kill,xb4,xb6,AV.has,AV.hasL,AO.wipe,List.map_set,xc2,insL,xc4,ins,])
     . obtain rfl : j=l.length:=by omega
       rw [List.take_length]
       simp (disch:=first | omega | decide +kernel) only [go_sem,Qa,Qb,Qc,Qd,Qe,↓reduceIte,reduceCtorEq,Qf,Qg,Qh]
       (repeat' (first | ((first | (refine xa0 ?_ ?_<;>intro q'<;>(have h':=q')<;>(try simp only [zz] at h')<;>try (exfalso; omega)) | (have q':=trivial; first | refine hE _ _ xa5 ?_ | refine hE _ _ xa2 ?_))<;>(try simp (disch:=first | omega | decide +kernel) only [q',go_sem,Qa,Qb,Qc,Qd,Qe,↓reduceIte,reduceCtorEq,Qf,Qg,Qh])<;>clear q') | (with_reducible first | refine And.intro ?_ ?_ | omega) | exact xa6 | (refine xa1 ?_; omega) | (refine za9 ⟨?_,?_⟩) | (simp only [go_sem,Qc,Qb,zb1,zb2,forall_eq]; done)))
       refine hN (S++l.map (·.1),out++[l]) _ hlt hsu.symm (by refine Wk.auto ?_ ?_<;>simp [xb1,lk,killL,St.kill,xb4,xb6,AV.has,AV.hasL,AO.wipe,List.map_set,xc2,insL,xc4,ins,D.lin])
 . obtain rfl : i=g.n.toNat:=by omega
   simp (disch:=first | omega | decide +kernel) only [go_sem,Qa,Qb,Qc,Qd,Qe,↓reduceIte,reduceCtorEq,Qf,Qg,Qh]
   (repeat' (first | ((first | (refine xa0 ?_ ?_<;>intro q'<;>(have h':=q')<;>(try simp only [zz] at h')<;>try (exfalso; omega)) | (have q':=trivial; first | refine hE _ _ xa5 ?_ | refine hE _ _ xa2 ?_))<;>(try simp (disch:=first | omega | decide +kernel) only [q',go_sem,Qa,Qb,Qc,Qd,Qe,↓reduceIte,reduceCtorEq,Qf,Qg,Qh])<;>clear q') | (with_reducible first | refine And.intro ?_ ?_ | omega) | (refine xa1 ?_; omega)))
   rw [show xb7 g=p.2 by rw [hp]; rfl]
   exact ya1 [3] rfl
end Abs.Y

namespace Abs.Y
open Go Go.Proofs Abs
set_option maxRecDepth 100000

theorem xk5 {g : Chg} {v k : Int} : k ∈ xb0 g v↔(0<=k∧k.toNat < g.ed.length∧((g.ed.getD k.toNat (0,0)).1=v∨(g.ed.getD k.toNat (0,0)).2=v)):=by
 refine ⟨xk2,fun ⟨h0,h1,h2⟩ => ?_⟩
 unfold xb0 xg5
 refine List.mem_map.2 ⟨k.toNat,List.mem_filter.2 ⟨List.mem_range.2 h1,?_⟩,by omega⟩
 rcases h2 with h2 | h2
 . exact zy6 h2
 . exact zy5 h2
theorem yb2 {g : Chg} {a k : Int} (h : k ∈ xb0 g a) : k ∈ xb0 g (other g a k)∧other g (other g a k) k=a:=by
 obtain ⟨h0,h1,h2⟩:=xk5.1 h
 unfold other
 refine ⟨xk5.2 ⟨h0,h1,?_⟩,by omega⟩
 rcases h2 with h2 | h2
 . right; omega
 . left; omega
theorem ye7 {g : Chg} {a b k : Int} (h : k ∈ xb0 g a) (hb : k ∈ xb0 g b) : b=a∨b=other g a k:=by
 obtain ⟨_,_,h2⟩:=xk5.1 h
 obtain ⟨_,_,h3⟩:=xk5.1 hb
 unfold other
 rcases h2 with h2 | h2<;>rcases h3 with h3 | h3
 . left; omega
 . right; omega
 . right; omega
 . left; omega
def zj0 (g : Chg) (C : List Int) : Prop:=∀ x ∈ C,∀ k ∈ xb0 g x,other g x k ∈ C
def Par (g : Chg) (out : List (Int × Int)) : Prop:=∀ j,0 < j->j < out.length->∃ i,i < j∧(out.getD j (0,0)).2 ∈ xb0 g (out.getD i (0,0)).1∧other g (out.getD i (0,0)).1 (out.getD j (0,0)).2=(out.getD j (0,0)).1
def ua1 (g : Chg) (i : Nat) (out : List (Int × Int)) : Prop:=∀ j,j < i->j < out.length->∀ k ∈ xb0 g (out.getD j (0,0)).1,other g (out.getD j (0,0)).1 k ∈ out.map (·.1)
theorem xz1 {l l' : List (Int × Int)} (h : l <+: l') {i : Nat} (hi : i < l.length) : l'.getD i (0,0)=l.getD i (0,0):=by
 obtain ⟨t,rfl⟩:=h
 simp [List.getD_eq_getElem?_getD,List.getElem?_append_left hi]
theorem zr4 {l l' : List (Int × Int)} (h : l <+: l') {x : Int} (hx : x ∈ l.map (·.1)) : x ∈ l'.map (·.1):=by
 obtain ⟨t,rfl⟩:=h
 rw [List.map_append]; exact List.mem_append_left _ hx
theorem grow1_has {g : Chg} {now k : Int} {out : List (Int × Int)} : other g now k ∈ (xz8 g now out k).map (·.1):=by
 unfold xz8; split
 . rename_i h; exact zm5.1 h
 . simp
theorem ze4 {g : Chg} {now : Int} : ∀ {ks : List Int} {out : List (Int × Int)},∀ k ∈ ks,other g now k ∈ (xp8 g now ks out).map (·.1)
 | k :: r, out, k', h => by
   show _ ∈ (xp8 g now r (xz8 g now out k)).map (·.1)
   rcases List.mem_cons.1 h with rfl | h
   . exact zr4 (xt3 (ks:=r)) grow1_has
   . exact ze4 (ks:=r) k' h
theorem grow1_par {g : Chg} {now k : Int} {out : List (Int × Int)} {i : Nat} (hi : i < out.length) (hn : (out.getD i (0,0)).1=now) (hk : k ∈ xb0 g now) (h : Par g out) : Par g (xz8 g now out k):=by
 unfold xz8; split
 . exact h
 . intro j h0 hj
   have hp : out <+: out++[(other g now k,k)]:=List.prefix_append _ _
   by_cases hlt : j < out.length
   . obtain ⟨i',h1,h2,h3⟩:=h j h0 hlt
     refine ⟨i',h1,?_⟩
     rw [xz1 hp hlt,xz1 hp (by omega)]
     exact ⟨h2,h3⟩
   . obtain rfl : j=out.length:=by simp at hj; omega
     refine ⟨i,hi,?_⟩
     rw [xz1 hp hi,hn,show (out++[(other g now k,k)]).getD out.length (0,0)=(other g now k,k) by simp [List.getD_eq_getElem?_getD]]
     exact ⟨hk,rfl⟩
theorem ze3 {g : Chg} {now : Int} : ∀ {ks : List Int} {out : List (Int × Int)} {i : Nat},i < out.length->(out.getD i (0,0)).1=now->(∀ k ∈ ks,k ∈ xb0 g now)->Par g out->Par g (xp8 g now ks out)
 | [],_,_,_,_,_,h => h
 | k :: r, out, i, hi, hn, hk, h => by
   have hp:=ze5 (g:=g) (now:=now) (k:=k) (out:=out)
   exact ze3 (ks:=r) (Nat.lt_of_lt_of_le hi hp.length_le) (by rw [xz1 hp hi]; exact hn) (fun k' h' => hk k' (by simp [h'])) (grow1_par hi hn (hk k (by simp)) h)
theorem lineF_spec {g : Chg} (hg : xc7 g=true) : ∀ (f i : Nat) (out : List (Int × Int)),LinOk g out->Par g out->ua1 g i out->9<=f + i ->
 LinOk g (xv4 g f i out)∧Par g (xv4 g f i out)∧ua1 g (xv4 g f i out).length (xv4 g f i out)∧out <+: xv4 g f i out:=by
 intro f
 induction f with
 | zero =>
   intro i out h1 h2 h3 h4
   have:=h1.len
   exact ⟨h1,h2,fun j _ (hj : j < out.length) => h3 j (by omega) hj,List.prefix_rfl⟩
 | succ f ih =>
   intro i out h1 h2 h3 h4
   rw [xv4]
   split
   . rename_i hi
     have hp : out <+: zo8 g out i:=xt3
     obtain ⟨a,b,c,d⟩:=ih (i + 1) (zo8 g out i) (xu8 hg (fun k h => h) h1) (ze3 hi rfl (fun k h => h) h2) (fun j hj hjl k hk => by
      by_cases e : j=i
      . subst e
        rw [xz1 hp hi] at hk ⊢
        exact ze4 k hk
      . have hjo : j < out.length:=by omega
        rw [xz1 hp hjo] at hk ⊢
        exact zr4 hp (h3 j (by omega) hjo k hk)) (by omega)
     exact ⟨a,b,c,hp.trans d⟩
   . exact ⟨h1,h2,fun j _ hj => h3 j (by omega) hj,List.prefix_rfl⟩
theorem xn6 {g : Chg} (hg : xc7 g=true) {v : Int} (hv : 0<=v∧v < g.n) : LinOk g (xh0 g v)∧Par g (xh0 g v)∧zj0 g ((xh0 g v).map (·.1))∧[(v,-1)] <+: xh0 g v:=by
 obtain ⟨a,b,c,d⟩:=lineF_spec hg 9 0 [(v,-1)] (yd9 hg hv) (fun j h0 hj => by simp at hj; omega) (fun j hj => by omega) (by omega)
 refine ⟨a,b,fun x hx k hk => ?_,d⟩
 obtain ⟨r,hr,rfl⟩:=List.mem_map.1 hx
 obtain ⟨j,hj,rfl⟩:=List.getElem_of_mem hr
 have e : (xh0 g v).getD j (0,0)=(xh0 g v)[j]:=by simp [List.getD_eq_getElem?_getD,hj]
 have:=c j hj hj
 rw [show xv4 g 9 0 [(v,-1)]=xh0 g v from rfl,e] at this
 exact this k hk
theorem xx0 {g : Chg} {v : Int} (h : [(v,-1)] <+: xh0 g v) : ∃ t,xh0 g v=(v,-1) :: t:=by
 obtain ⟨t,ht⟩:=h; exact ⟨t,ht.symm⟩
theorem line_conn {g : Chg} (hg : xc7 g=true) {v : Int} (hv : 0<=v∧v < g.n) {C : List Int} (hC : zj0 g C) : ∀ x ∈ (xh0 g v).map (·.1),x ∈ C->v ∈ C:=by
 obtain ⟨_,hp,_,hh⟩:=xn6 hg hv
 have key : ∀ j,j < (xh0 g v).length->((xh0 g v).getD j (0,0)).1 ∈ C->v ∈ C:=by
  intro j
  induction j using Nat.strongRecOn with
  | ind j ih =>
    intro hj hx
    by_cases h0 : j=0
    . subst h0
      obtain ⟨t,ht⟩:=xx0 hh
      rw [ht] at hx; exact hx
    . obtain ⟨i,h1,h2,h3⟩:=hp j (by omega) hj
      refine ih i h1 (by omega) ?_
      have:=yb2 h2
      rw [h3] at this
      have h4:=hC _ hx _ this.1
      rwa [this.2] at h4
 intro x hx hc
 obtain ⟨r,hr,rfl⟩:=List.mem_map.1 hx
 obtain ⟨j,hj,rfl⟩:=List.getElem_of_mem hr
 refine key j hj ?_
 rw [show (xh0 g v).getD j (0,0)=(xh0 g v)[j] by simp [List.getD_eq_getElem?_getD,hj]]
 exact hc
theorem yp0 {g : Chg} {out : List (Int × Int)} (hp : Par g out) : ∀ r ∈ out.drop 1,r.2 ∈ xb0 g r.1∧∃ y ∈ out.map (·.1),y=other g r.1 r.2:=by
 intro r hr
 obtain ⟨j,hj,rfl⟩:=List.getElem_of_mem hr
 rw [List.getElem_drop]
 have hjl : 1 + j < out.length:=by simp at hj; omega
 obtain ⟨i,h1,h2,h3⟩:=hp (1 + j) (by omega) hjl
 have e : out.getD (1 + j) (0,0)=out[1 + j]:=by simp [List.getD_eq_getElem?_getD,hjl]
 rw [e] at h2 h3
 have:=yb2 h2
 rw [h3] at this
 refine ⟨this.1,(out.getD i (0,0)).1,?_,this.2.symm⟩
 have hil : i < out.length:=by omega
 rw [show out.getD i (0,0)=out[i] by simp [List.getD_eq_getElem?_getD,hil]]
 exact List.mem_map.2 ⟨_,List.getElem_mem hil,rfl⟩
theorem line_nodup {g : Chg} {out : List (Int × Int)} (ho : LinOk g out) (hp : Par g out) : ((out.drop 1).map (·.2)).Nodup:=by
 have hnd:=ho.nd
 unfold List.Nodup at hnd ⊢
 rw [List.pairwise_iff_getElem] at hnd ⊢
 intro a b ha hb hab
 simp only [List.getElem_map,List.getElem_drop]
 simp only [List.length_map,List.length_drop] at ha hb
 intro he
 obtain ⟨i,h1,h2,h3⟩:=hp (1 + a) (by omega) (by omega)
 obtain ⟨i',h1',h2',h3'⟩:=hp (1 + b) (by omega) (by omega)
 have gd : ∀ k (hk : k < out.length),out.getD k (0,0)=out[k]:=fun k hk => by simp [List.getD_eq_getElem?_getD,hk]
 rw [gd _ (by omega),gd _ (by omega)] at h2 h3 h2' h3'
 have hm:=yb2 h2'
 rw [h3',← he] at hm
 have ne : ∀ i j (hi : i < out.length) (hj : j < out.length),i < j->out[i].1 ≠ out[j].1:=fun i j hi hj hij => by
  have:=hnd i j (by simpa using hi) (by simpa using hj) hij
  simpa using this
 rcases ye7 h2 hm.1 with h | h
 . exact ne i (1 + b) (by omega) (by omega) (by omega) h.symm
 . rw [h3] at h; exact ne (1 + a) (1 + b) (by omega) (by omega) (by omega) h.symm
end Abs.Y

namespace Abs
open Go Go.RowKit

theorem yd1 (a : Nat) : BitVec.ofInt 64 (a : Int)=BitVec.ofNat 64 a:=by
 apply BitVec.eq_of_toNat_eq; simp [BitVec.toNat_ofInt]
theorem bitV_and {a b : Nat} (ha : a < 2 ^ 63) (hb : b < 2 ^ 63) : bitV .and .i64 a b=((a &&& b : Nat) : Int):=by
 have h : a &&& b < 2 ^ 63:=Nat.and_lt_two_pow _ hb
 show IntKind.wrap .i64 (((BitVec.ofInt 64 (a : Int)) &&& (BitVec.ofInt 64 (b : Int))).toNat : Nat)=_
 rw [yd1,yd1,BitVec.toNat_and,BitVec.toNat_ofNat,BitVec.toNat_ofNat,Nat.mod_eq_of_lt (by omega),Nat.mod_eq_of_lt (by omega),xv7 (by omega)]
theorem bitV_or {a b : Nat} (ha : a < 2 ^ 63) (hb : b < 2 ^ 63) : bitV .or .i64 a b=((a ||| b : Nat) : Int):=by
 have h : a ||| b < 2 ^ 63:=Nat.or_lt_two_pow ha hb
 show IntKind.wrap .i64 (((BitVec.ofInt 64 (a : Int)) ||| (BitVec.ofInt 64 (b : Int))).toNat : Nat)=_
 rw [yd1,yd1,BitVec.toNat_or,BitVec.toNat_ofNat,BitVec.toNat_ofNat,Nat.mod_eq_of_lt (by omega),Nat.mod_eq_of_lt (by omega),xv7 (by omega)]
theorem xu1 {e : Nat} (he : e<=62) : IntKind.wrap .i64 (1 * 2 ^ min e (IntKind.bits .i64))=((2 ^ e : Nat) : Int):=by
 have h : 2 ^ e<=2 ^ 62:=Nat.pow_le_pow_right (by decide) he
 rw [show min e (IntKind.bits .i64)=e by simp [IntKind.bits]; omega,Int.one_mul]
 have e1 : ((2 : Int) ^ e)=((2 ^ e : Nat) : Int):=by simp
 rw [e1]
 generalize 2 ^ e=x at *
 rw [xv7 (by omega)]
theorem shr_nat {b e : Nat} (he : e<=62) : (b : Int).fdiv (2 ^ min e (IntKind.bits .i64))=((b >>> e : Nat) : Int):=by
 rw [show min e (IntKind.bits .i64)=e by simp [IntKind.bits]; omega]
 have e1 : ((2 : Int) ^ e)=((2 ^ e : Nat) : Int):=by simp
 rw [e1,Nat.shiftRight_eq_div_pow]
 rw [Int.fdiv_eq_ediv_of_nonneg _ (Int.natCast_nonneg _)]; simp
def bitI (b k : Nat) : Int:=if b.testBit k then 1 else 0
theorem zo1 {b k : Nat} (hk : k<=62) (hb : b < 2 ^ 63) : bitV .and .i64 ((b : Int).fdiv (2 ^ min k (IntKind.bits .i64))) 1=bitI b k:=by
 rw [shr_nat hk]
 have h : b >>> k < 2 ^ 63:=Nat.lt_of_le_of_lt (Nat.shiftRight_le b k) hb
 have:=bitV_and h (b:=1) (by decide)
 rw [show ((1 : Nat) : Int)=1 from rfl] at this
 rw [this,Nat.and_one_is_mod]
 unfold bitI
 rw [Nat.testBit,Nat.one_and_eq_mod_two,bne]
 rcases Nat.mod_two_eq_zero_or_one (b >>> k) with h | h<;>simp [h]
theorem or_add {b e : Nat} (h : b.testBit e=false) (hb : b < 2 ^ 63) (he : e<=62) : b ||| 2 ^ e=b + 2 ^ e:=by
 have hp : 2 ^ e<=2 ^ 62:=Nat.pow_le_pow_right (by decide) he
 have h2 : BitVec.ofNat 64 b &&& BitVec.ofNat 64 (2 ^ e)=0#64:=by
  apply BitVec.eq_of_toNat_eq
  rw [BitVec.toNat_and,BitVec.toNat_ofNat,BitVec.toNat_ofNat,Nat.mod_eq_of_lt (by omega),Nat.mod_eq_of_lt (by omega)]
  apply Nat.eq_of_testBit_eq
  intro i
  simp only [Nat.testBit_and,Nat.testBit_two_pow]
  by_cases hi : e=i
  . subst hi; simp [h]
  . simp [hi]
 have h3:=congrArg BitVec.toNat (BitVec.add_eq_or_of_and_eq_zero _ _ h2)
 rw [BitVec.toNat_add,BitVec.toNat_or,BitVec.toNat_ofNat,BitVec.toNat_ofNat,Nat.mod_eq_of_lt (a:=b) (by omega),Nat.mod_eq_of_lt (a:=2 ^ e) (by omega),Nat.mod_eq_of_lt (by omega)] at h3
 exact h3.symm
end Abs

namespace Abs.Y
open Go Go.Proofs Abs
set_option maxRecDepth 100000

def seqI (ls : List (List (Int × Int))) : List (Int × Int):=ls.flatMap fun l => (l.drop 1).reverse
theorem yw9 (ls : List (List (Int × Int))) (l : List (Int × Int)) : seqI (ls++[l])=seqI ls++(l.drop 1).reverse:=by simp [seqI]
structure LinesOk (g : Chg) (k : Nat) (p : List Int × List (List (Int × Int))) : Prop where
 closed : zj0 g p.1
 all : ∀ u : Nat,u < k->(u : Int) ∈ p.1
 line : ∀ l ∈ p.2,∃ v : Int,(0<=v∧v < g.n)∧l=xh0 g v∧∀ x ∈ l.map (·.1),v<=x
 nd : ((seqI p.2).map (·.2)).Nodup
 ends : ∀ r ∈ seqI p.2,r.2 ∈ xb0 g r.1∧r.1 ∈ p.1
 vx : ∀ r ∈ seqI p.2,0<=r.1∧r.1 < g.n
theorem xw9 {g : Chg} (hg : xc7 g=true) : ∀ k,k<=g.n.toNat->LinesOk g k (xh3 g k)
 | 0,_ => ⟨fun x hx => by simp [xh3] at hx,by omega,fun l hl => by simp [xh3] at hl,by simp [xh3,seqI],fun r hr => by simp [xh3,seqI] at hr,fun r hr => by simp [xh3,seqI] at hr⟩
 | k + 1, hk => by
   have ih:=xw9 hg k (by omega)
   rw [xl2]
   generalize xh3 g k=p at *
   unfold yw7
   split
   . rename_i h
     refine ⟨ih.closed,fun u hu => ?_,ih.line,ih.nd,ih.ends,ih.vx⟩
     by_cases e : u=k
     . subst e; exact h
     . exact ih.all u (by omega)
   . rename_i h
     have hv : 0<=((k : Nat) : Int)∧((k : Nat) : Int) < g.n:=by omega
     obtain ⟨h1,h2,h3,h4⟩:=xn6 hg hv
     have hcon:=line_conn hg hv ih.closed
     have hno : ∀ x ∈ (xh0 g (k : Int)).map (·.1),x ∉ p.1:=fun x hx hc => h (hcon x hx hc)
     obtain ⟨t,ht⟩:=xx0 h4
     have hdm : ∀ r ∈ (xh0 g (k : Int)).drop 1,r.1 ∈ (xh0 g (k : Int)).map (·.1):=fun r hr => List.mem_map.2 ⟨r,List.mem_of_mem_drop hr,rfl⟩
     refine ⟨fun x hx e he => ?_,fun u hu => ?_,fun l hl => ?_,?_,fun r hr => ?_,fun r hr => ?_⟩
     . rcases List.mem_append.1 hx with hx | hx
       . exact List.mem_append_left _ (ih.closed x hx e he)
       . exact List.mem_append_right _ (h3 x hx e he)
     . by_cases e : u=k
       . subst e; refine List.mem_append_right _ ?_; rw [ht]; simp
       . exact List.mem_append_left _ (ih.all u (by omega))
     . rcases List.mem_append.1 hl with hl | hl
       . exact ih.line l hl
       . rw [List.mem_singleton.1 hl]
         refine ⟨k,hv,rfl,fun x hx => ?_⟩
         obtain ⟨r,hr,rfl⟩:=List.mem_map.1 hx
         have hr0:=h1.vx r hr
         by_cases hlt : (k : Int)<=r.1
         . exact hlt
         . have:=ih.all r.1.toNat (by omega)
           rw [show ((r.1.toNat : Nat) : Int)=r.1 by omega] at this
           exact absurd this (hno _ hx)
     . rw [yw9,List.map_append,List.nodup_append]
       refine ⟨ih.nd,?_,fun a ha b hb e => ?_⟩
       . rw [List.map_reverse]; exact List.pairwise_reverse.2 ((line_nodup h1 h2).imp Ne.symm)
       . subst e
         obtain ⟨r,hr,rfl⟩:=List.mem_map.1 ha
         obtain ⟨r',hr',he⟩:=List.mem_map.1 hb
         have hr':=List.mem_reverse.1 hr'
         obtain ⟨a1,y,hy,a2⟩:=yp0 h2 r' hr'
         have b1:=ih.ends r hr
         rw [he] at a1 a2
         have hc1:=hdm r' hr'
         rcases ye7 b1.1 a1 with e1 | e1
         . rw [e1] at hc1; exact hno _ hc1 b1.2
         . rw [e1] at hc1; exact hno _ hc1 (ih.closed _ b1.2 _ b1.1)
     . rw [yw9] at hr
       rcases List.mem_append.1 hr with hr | hr
       . exact ⟨(ih.ends r hr).1,List.mem_append_left _ (ih.ends r hr).2⟩
       . have hr:=List.mem_reverse.1 hr
         exact ⟨(yp0 h2 r hr).1,List.mem_append_right _ (hdm r hr)⟩
     . rw [yw9] at hr
       rcases List.mem_append.1 hr with hr | hr
       . exact ih.vx r hr
       . exact h1.vx r (List.mem_of_mem_drop (List.mem_reverse.1 hr))
def sumW (g : Chg) (b : Nat) (ks : List Int) : Int:=ks.foldl (fun s k => s + bitI b k.toNat) 0
def xv6 (g : Chg) (v : Int) (b : Nat) : Bool:=decide (Int.tmod (g.ch.getD v.toNat 0 + sumW g b (xb0 g v)) 2=1)
def stO (g : Chg) (b : Nat) (r : Int × Int) : Nat:=if xv6 g r.1 b then b ||| 2 ^ r.2.toNat else b
def stP (g : Chg) (b : Nat) (r : Int × Int) : Nat:=if xv6 g r.1 b then b + 2 ^ r.2.toNat else b
theorem xn7 {α β : Type} (f : β->α->β) (b : β) (l : List α) (z : α) (i : Nat) (h : i < l.length) : (l.take (i + 1)).foldl f b=f ((l.take i).foldl f b) (l.getD i z):=by
 rw [xf7 z l i h,List.foldl_append]; rfl
end Abs.Y

namespace Abs.Y
open Go Go.Proofs Abs
set_option maxRecDepth 100000

set_option maxHeartbeats 8000000 in
theorem zm3 (l : List Int) (n : Int) (hl : l.length<=1048576) : Ctr Tryz.prog 87 [D.ints l,.int .i64 n] true (.d (D.ints (putZ l n))) []:=by
 refine Ctr.of (n:=45) (rs:=[.tmp 4]) Tryz.func87 rfl rfl Tryz.ntmps87 rfl rfl (by kernel_rfl) Tryz.checked.mixed ?_
 simp (disch:=first | omega | decide +kernel) only [D.ints,go_sem,Qa,Qb,Qc,Qd,Qe,↓reduceIte,reduceCtorEq,Qf,Qg,Qh]
 (repeat' (first | ((first | (refine xa0 ?_ ?_<;>intro q'<;>(have h':=q')<;>(try simp only [zz] at h')<;>try (exfalso; omega)) | (have q':=trivial; first | refine hE _ _ xa5 ?_ | refine hE _ _ xa2 ?_))<;>(try simp (disch:=first | omega | decide +kernel) only [q',go_sem,Qa,Qb,Qc,Qd,Qe,↓reduceIte,reduceCtorEq,Qf,Qg,Qh])<;>clear q') | (with_reducible first | refine And.intro ?_ ?_ | omega) | (refine xa1 ?_; omega)))
 refine Ok.loopC [19,18,17,16,15,14,13,12,11,10,9,8,7,6,5,3,2] (fun i => [(5,.d (.int .i64 (i : Nat)))]) l.length (fun k => ∀ j,j < k->l.getD j 0 < n) (by simp) (Wk.kk) ?_
 intro R k hN hE hk hI
 have hkt : ((k : Nat) : Int).toNat=k:=by omega
 have hd : (l.drop k).take (l.length - k)=l.drop k:=List.take_of_length_le (by simp)
 have hat:=zq5 (n:=n) hk hI
 by_cases hlt : k < l.length
 . by_cases hx : l.getD k 0 < n
   . simp (disch:=first | omega | decide +kernel) only [hkt,go_sem,Qa,Qb,Qc,Qd,Qe,↓reduceIte,reduceCtorEq,Qf,Qg,Qh]
     (repeat' (first | ((first | (refine xa0 ?_ ?_<;>intro q'<;>(have h':=q')<;>(try simp only [zz] at h')) | (have q':=trivial; first | refine hE _ _ xa5 ?_ | refine hE _ _ xa2 ?_))<;>(try simp (disch:=first | omega | decide +kernel) only [q',hkt,go_sem,Qa,Qb,Qc,Qd,Qe,↓reduceIte,reduceCtorEq,Qf,Qg,Qh])<;>clear q') | refine hN _ ?_ ?_ Wk.kk | (with_reducible first | refine And.intro ?_ ?_ | omega) | exact xb8 | exact xa8 | exact xa6 | with_reducible exact xa7 | (refine xa1 ?_; omega) | (refine za9 ⟨?_,?_⟩) | (simp only [go_sem,Qc,Qb,zb1,zb2,forall_eq]; done)))
     exact fun j hj => by
      rcases Nat.lt_or_ge j k with h | h
      . exact hI j h
      . obtain rfl : j=k:=by omega
        exact hx
   . have hat:=hat fun _ => by omega
     by_cases he : l.getD k 0=n
     . rw [if_pos ⟨hlt,he⟩] at hat
       simp (disch:=first | omega | decide +kernel) only [hkt,go_sem,Qa,Qb,Qc,Qd,Qe,↓reduceIte,reduceCtorEq,Qf,Qg,Qh]
       (repeat' (first | ((first | (refine xa0 ?_ ?_<;>intro q'<;>(have h':=q')<;>(try simp only [zz] at h')<;>try (exfalso; omega)) | (have q':=trivial; first | refine hE _ _ xa5 ?_ | refine hE _ _ xa2 ?_))<;>(try simp (disch:=first | omega | decide +kernel) only [q',hkt,go_sem,Qa,Qb,Qc,Qd,Qe,↓reduceIte,reduceCtorEq,Qf,Qg,Qh])<;>clear q') | (with_reducible first | refine And.intro ?_ ?_ | omega) | (refine xa1 ?_; omega)))
       rw [hat]
       exact ya1 [] rfl
     . rw [if_neg fun h => he h.2] at hat
       rcases Nat.eq_zero_or_pos k with h0 | h0
       . have hz : l.take k=[]:=by rw [h0]; rfl
         simp (disch:=first | omega | decide +kernel) only [hkt,hz,List.map_nil,go_sem,Qa,Qb,Qc,Qd,Qe,↓reduceIte,reduceCtorEq,Qf,Qg,Qh]
         (repeat' (first | ((first | (refine xa0 ?_ ?_<;>intro q'<;>(have h':=q')<;>(try simp only [zz] at h')) | (have q':=trivial; first | refine hE _ _ xa5 ?_ | refine hE _ _ xa2 ?_))<;>(try simp (disch:=first | omega | decide +kernel) only [q',hkt,hz,hd,List.map_nil,go_sem,Qa,Qb,Qc,Qd,Qe,↓reduceIte,reduceCtorEq,Qf,Qg,Qh])<;>clear q') | refine hN _ ?_ ?_ Wk.kk | (with_reducible first | refine And.intro ?_ ?_ | omega) | exact xb8 | exact xa8 | exact xa6 | with_reducible exact xa7 | (refine xa1 ?_; omega) | (refine za9 ⟨?_,?_⟩) | (simp only [go_sem,Qc,Qb,zb1,zb2,forall_eq]; done)))
         rw [hat,hz,List.nil_append,List.map_cons]
         exact ya1 [40] rfl
       . obtain ⟨y,r,hyr⟩ : ∃ y r,l.take k=y :: r:=by
          cases h : l.take k with
          | nil => have:=congrArg List.length h; simp only [List.length_take,List.length_nil] at this; omega
          | cons y r => exact ⟨y,r,rfl⟩
         have hrl : r.length + 1<=l.length:=by have:=congrArg List.length hyr; simp only [List.length_take,List.length_cons] at this; omega
         simp (disch:=first | omega | decide +kernel) only [hkt,hyr,List.map_cons,go_sem,Qa,Qb,Qc,Qd,Qe,↓reduceIte,reduceCtorEq,Qf,Qg,Qh]
         (repeat' (first | ((first | (refine xa0 ?_ ?_<;>intro q'<;>(have h':=q')<;>(try simp only [zz] at h')) | (have q':=trivial; first | refine hE _ _ xa5 ?_ | refine hE _ _ xa2 ?_))<;>(try simp (disch:=first | omega | decide +kernel) only [q',hkt,hyr,hd,List.map_cons,go_sem,Qa,Qb,Qc,Qd,Qe,↓reduceIte,reduceCtorEq,Qf,Qg,Qh])<;>clear q') | refine hN _ ?_ ?_ Wk.kk | (with_reducible first | refine And.intro ?_ ?_ | omega) | exact xb8 | exact xa8 | exact xa6 | with_reducible exact xa7 | (refine xa1 ?_; omega) | (refine za9 ⟨?_,?_⟩) | (simp only [go_sem,Qc,Qb,zb1,zb2,forall_eq]; done)))
         rw [hat,hyr,show List.map (D.int .i64) (y :: r++n :: l.drop k)=D.int .i64 y :: (List.map (D.int .i64) r++[D.int .i64 n]++List.map (D.int .i64) (l.drop k)) by simp]
         exact ya1 [37] rfl
 . have hat:=hat fun h => absurd h hlt
   rw [if_neg fun h => hlt h.1] at hat
   rcases Nat.eq_zero_or_pos k with h0 | h0
   . have hz : l.take k=[]:=by rw [h0]; rfl
     simp (disch:=first | omega | decide +kernel) only [hkt,hz,List.map_nil,go_sem,Qa,Qb,Qc,Qd,Qe,↓reduceIte,reduceCtorEq,Qf,Qg,Qh]
     (repeat' (first | ((first | (refine xa0 ?_ ?_<;>intro q'<;>(have h':=q')<;>(try simp only [zz] at h')) | (have q':=trivial; first | refine hE _ _ xa5 ?_ | refine hE _ _ xa2 ?_))<;>(try simp (disch:=first | omega | decide +kernel) only [q',hkt,hz,hd,List.map_nil,go_sem,Qa,Qb,Qc,Qd,Qe,↓reduceIte,reduceCtorEq,Qf,Qg,Qh])<;>clear q') | refine hN _ ?_ ?_ Wk.kk | (with_reducible first | refine And.intro ?_ ?_ | omega) | exact xb8 | exact xa8 | exact xa6 | with_reducible exact xa7 | (refine xa1 ?_; omega) | (refine za9 ⟨?_,?_⟩) | (simp only [go_sem,Qc,Qb,zb1,zb2,forall_eq]; done)))
     rw [hat,hz,List.nil_append,List.map_cons]
     exact ya1 [40] rfl
   . obtain ⟨y,r,hyr⟩ : ∃ y r,l.take k=y :: r:=by
      cases h : l.take k with
      | nil => have:=congrArg List.length h; simp only [List.length_take,List.length_nil] at this; omega
      | cons y r => exact ⟨y,r,rfl⟩
     have hrl : r.length + 1<=l.length:=by have:=congrArg List.length hyr; simp only [List.length_take,List.length_cons] at this; omega
     simp (disch:=first | omega | decide +kernel) only [hkt,hyr,List.map_cons,go_sem,Qa,Qb,Qc,Qd,Qe,↓reduceIte,reduceCtorEq,Qf,Qg,Qh]
     (repeat' (first | ((first | (refine xa0 ?_ ?_<;>intro q'<;>(have h':=q')<;>(try simp only [zz] at h')) | (have q':=trivial; first | refine hE _ _ xa5 ?_ | refine hE _ _ xa2 ?_))<;>(try simp (disch:=first | omega | decide +kernel) only [q',hkt,hyr,hd,List.map_cons,go_sem,Qa,Qb,Qc,Qd,Qe,↓reduceIte,reduceCtorEq,Qf,Qg,Qh])<;>clear q') | refine hN _ ?_ ?_ Wk.kk | (with_reducible first | refine And.intro ?_ ?_ | omega) | exact xb8 | exact xa8 | exact xa6 | with_reducible exact xa7 | (refine xa1 ?_; omega) | (refine za9 ⟨?_,?_⟩) | (simp only [go_sem,Qc,Qb,zb1,zb2,forall_eq]; done)))
     rw [hat,hyr,show List.map (D.int .i64) (y :: r++n :: l.drop k)=D.int .i64 y :: (List.map (D.int .i64) r++[D.int .i64 n]++List.map (D.int .i64) (l.drop k)) by simp]
     exact ya1 [37] rfl
end Abs.Y
