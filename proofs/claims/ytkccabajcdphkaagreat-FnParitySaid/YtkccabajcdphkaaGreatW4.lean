/- What functions of this program compute, over plain data. No condition. -/
import Derived.Test.YtkccabajcdphkaaGreatAbsRow
import Derived.Test.YtkccabajcdphkaaGreatFF3
import Derived.Test.YtkccabajcdphkaaGreatPLI
import Derived.Test.YtkccabajcdphkaaGreatChecked
import Derived.Shelf.SortM.Plain
import Derived.Shelf.SortM.SortNone
import Derived.Ground.SlgmProg
set_option linter.all false
open Nat renaming reduceEqDiff -> Qa, reduceLT -> Qb, reduceAdd -> Qc, reduceMul -> Qd, reduceSub -> Qe, reduceLeDiff -> Qf, reduceSubDiff -> Qg, reduceBEq -> Qh
open Bool renaming not_eq_true' -> Ba, not_eq_false' -> Bb, and_eq_true -> Bc, or_eq_true -> Bh, or_eq_false_iff -> Be
open Int renaming ofNat_lt -> Ia, ofNat_le -> Ib, not_lt -> Ic, not_le -> Ie
open Decidable renaming not_not -> Da
namespace Abs.Y
open Go Go.Proofs Abs
set_option maxRecDepth 100000

theorem zt8 {code : Nat} {l : List Int} {i : Nat} (h : i < l.length) : cK code (l.take (i + 1))=cK code (l.take i)++[if code.testBit i then -(l.getD i 0) else l.getD i 0]:=by
 rw [xf7 0 l i h,yh7,List.length_take,Nat.min_eq_left (by omega)]
theorem ngI_cK {code : Nat} {l : List Int} (hl : ∀ v ∈ l,0 < v) {i : Nat} (h : i < l.length) : ngI (cK code (l.take (i + 1)))=ngI (cK code (l.take i)) + bitI code i:=by
 have:=hl _ (xc0 (z:=(0 : Int)) h)
 rw [zt8 h,yn8]
 unfold bitI
 generalize l.getD i 0=x at *
 cases code.testBit i
 . have e : ¬ (x < 0):=by omega
   simp [e]
 . have e : -x < 0:=by omega
   simp [e]
   omega
theorem clTo_len (q : Int) (l : List Int) (n : Nat) (hl : ∀ v ∈ l,0 < v∧v<=60) : (clTo q l n).length<=n:=by
 induction n with
 | zero => simp [clTo]
 | succ n ih =>
   rw [clTo]
   split
   . obtain ⟨h1,_⟩:=xx8 (ch:=q) hl n
     unfold insI
     split
     . omega
     . rw [List.length_append,List.length_cons,List.length_take,List.length_drop]; omega
   . omega
set_option maxHeartbeats 8000000 in
theorem l27Clauses_ok (g : Chg) (hg : GoodP g) (v : Nat) (hv : v < g.ch.length) : Ctr Tryz.prog 41 [D.chg g,.int .i64 (v : Nat)] true (.d (.slice ((xorI (vsI g v) (decide (g.ch.getD v 0=1))).map D.ints))) []:=by
 have hn:=hg.n1
 have hm:=hg.m
 have hcl:=hg.c
 have c1:=ye0 g v (by omega)
 have hch:=hg.q v hv
 have hd:=hg.d v hv
 have hvs : ∀ x ∈ vsI g v,0 < x∧x<=60:=fun x hx => by have:=ys9 x hx; omega
 have hlen:=yh8 g v
 rw [← cl_eq hvs hch,hlen]
 have hget : ∀ i,i < (xb0 g v).length->(vsI g v).getD i 0=(xb0 g v).getD i 0 + 1:=fun i hi => by
  unfold vsI
  rw [List.getD_eq_getElem?_getD,List.getElem?_map,List.getD_eq_getElem?_getD,List.getElem?_eq_getElem hi]; rfl
 have hkb0 : ∀ k ∈ xb0 g v,0<=k∧k < 60:=fun k hk => by have:=xk2 hk; omega
 have hpw : ∀ n,n<=4->2 ^ n<=16:=fun n hn => Nat.pow_le_pow_right (n:=2) (by decide) hn
 have h16:=hpw _ hd
 have h1:=xl3 (xs:=g.ch) (i:=v) hv
 generalize g.ch.getD v 0=q at *
 generalize vsI g v=l at *
 generalize xb0 g v=ks at *
 have hsl:=xu1 (e:=ks.length) (by omega)
 rw [show IntKind.bits .i64=64 from rfl] at hsl
 have hvp : ∀ x ∈ l,0 < x:=fun x hx => (hvs x hx).1
 simp only [D.chg,D.ints] at c1
 have hkb : ∀ k ∈ ks,0<=k∧k < 60:=hkb0
 have hz : (clTo q l 0).map D.ints=[]:=rfl
 refine Ctr.ofK (n:=65) (rs:=[.tmp 4]) Tryz.func41 rfl rfl Tryz.ntmps41 rfl rfl (by kernel_rfl) Tryz.checked.mixed ?_
 refine Ok.seq (Ok.go ?_)
 simp (disch:=first | omega | decide +kernel) only [D.chg,D.ints,go_sem,Qa,Qb,Qc,Qd,Qe,↓reduceIte,reduceCtorEq,Qf,Qg,Qh]
 refine Ok.seq (Ok.go ?_)
 simp (disch:=first | omega | decide +kernel) only [go_sem,Qa,Qb,Qc,Qd,Qe,↓reduceIte,reduceCtorEq,Qf,Qg,Qh]
 (repeat' (first | ((first | (refine xa0 ?_ ?_<;>intro q'<;>(have h':=q')<;>(try simp only [zz] at h')<;>try (exfalso; omega)) | (have q':=trivial; first | refine xa3 (c1) rfl (by decide) ?_ | refine xa4 (c1) rfl ?_))<;>(try simp (disch:=first | omega | decide +kernel) only [q',go_sem,Qa,Qb,Qc,Qd,Qe,↓reduceIte,reduceCtorEq,Qf,Qg,Qh])<;>clear q') | (with_reducible first | refine And.intro ?_ ?_ | omega) | exact xa6 | (refine xa1 ?_; omega) | (refine za9 ⟨?_,?_⟩) | (simp only [go_sem,Qc,Qb,zb1,zb2,forall_eq]; done)))
 refine Ok.weak (Wk.frz (j:=1400000) rfl) ?_
 simp (disch:=first | omega | decide +kernel) only [St.frz,frzS,frzO,AV.frz,AV.frzL,AO.frz,go_sem,Qa,Qb,Qc,Qd,Qe,↓reduceIte,reduceCtorEq,Qf,Qg,Qh]
 refine Ok.weak (Wk.frz (j:=14) rfl) ?_
 simp (disch:=first | omega | decide +kernel) only [St.frz,frzS,frzO,AV.frz,AV.frzL,AO.frz,go_sem,Qa,Qb,Qc,Qd,Qe,↓reduceIte,reduceCtorEq,Qf,Qg,Qh]
 refine Ok.seq (Ok.seq (Ok.go ?_))
 simp (disch:=first | omega | decide +kernel) only [go_sem,Qa,Qb,Qc,Qd,Qe,↓reduceIte,reduceCtorEq,Qf,Qg,Qh]
 (repeat' (first | ((first | (refine xa0 ?_ ?_<;>intro q'<;>(have h':=q')<;>(try simp only [zz] at h')<;>try (exfalso; omega)))<;>(try simp (disch:=first | omega | decide +kernel) only [q',go_sem,Qa,Qb,Qc,Qd,Qe,↓reduceIte,reduceCtorEq,Qf,Qg,Qh])<;>clear q') | (with_reducible first | refine And.intro ?_ ?_ | omega) | (refine xa1 ?_; omega)))
 refine Ok.block ?_
 refine Ok.loopNO [64,63,62,61,60,59,58,57,56,55,54,53,52,51,50,49,48,47,46,45,44,43,42,41,40,39,38,37,36,35,34,33,32,31,30,29,28,27,26,25,24,23,22,21,20,19,18,17,16,15,14,13,12,11,10,9,8,7,6,4,3,0] (fun i _ => [(7,.d (.int .i64 (i : Nat))),(6,.d (.slice ((clTo q l i).map D.ints)))]) (fun _ (_ : Unit) => []) (2 ^ ks.length) (fun _ _ => True) () trivial (by refine Wk.auto ?_ ?_<;>simp [xb1,lk,killL,St.kill,xb4,xb6,AV.has,AV.hasL,AO.wipe,List.map_set,xc2,insL,xc4,ins,hz]) ?_
 rintro R i _ hN hE1 hi _
 have hcn:=clTo_len q l i hvs
 by_cases hlt : i < 2 ^ ks.length
 . refine Ok.seq (Ok.go ?_)
   simp (disch:=first | omega | decide +kernel) only [hsl,List.length_map,go_sem,Qa,Qb,Qc,Qd,Qe,↓reduceIte,reduceCtorEq,Qf,Qg,Qh]
   (repeat' (first | ((first | (refine xa0 ?_ ?_<;>intro q'<;>(have h':=q')<;>(try simp only [zz] at h')<;>try (exfalso; omega)))<;>(try simp (disch:=first | omega | decide +kernel) only [q',hsl,List.length_map,go_sem,Qa,Qb,Qc,Qd,Qe,↓reduceIte,reduceCtorEq,Qf,Qg,Qh])<;>clear q') | (with_reducible first | refine And.intro ?_ ?_ | omega) | (refine xa1 ?_; omega)))
   refine Ok.seq (Ok.block (Ok.seq (Ok.reg8 [false,true,true,true,true,true,false,false] (by decide +kernel) ?_)))
   simp (disch:=first | omega | decide +kernel) only [h1,Int.toNat_natCast,List.length_map,go_sem,Qa,Qb,Qc,Qd,Qe,↓reduceIte,reduceCtorEq,Qf,Qg,Qh]
   (repeat' (first | ((first | (refine xa0 ?_ ?_<;>intro q'<;>(have h':=q')<;>(try simp only [zz] at h')<;>try (exfalso; omega)))<;>(try simp (disch:=first | omega | decide +kernel) only [q',h1,Int.toNat_natCast,List.length_map,go_sem,Qa,Qb,Qc,Qd,Qe,↓reduceIte,reduceCtorEq,Qf,Qg,Qh])<;>clear q') | (with_reducible first | refine And.intro ?_ ?_ | omega) | exact xa6 | (refine xa1 ?_; omega) | (refine za9 ⟨?_,?_⟩) | (simp only [go_sem,Qc,Qb,zb1,zb2,forall_eq]; done)))
   refine Ok.seq (Ok.seq (Ok.go ?_))
   simp (disch:=first | omega | decide +kernel) only [go_sem,Qa,Qb,Qc,Qd,Qe,↓reduceIte,reduceCtorEq,Qf,Qg,Qh]
   (repeat' (first | ((first | (refine xa0 ?_ ?_<;>intro q'<;>(have h':=q')<;>(try simp only [zz] at h')<;>try (exfalso; omega)))<;>(try simp (disch:=first | omega | decide +kernel) only [q',go_sem,Qa,Qb,Qc,Qd,Qe,↓reduceIte,reduceCtorEq,Qf,Qg,Qh])<;>clear q') | (with_reducible first | refine And.intro ?_ ?_ | omega) | (refine xa1 ?_; omega)))
   refine Ok.block ?_
   have hk0 : cK i []=[]:=rfl
   have hk1 : ngI []=0:=rfl
   refine Ok.loopNO [64,63,62,61,60,59,58,57,56,55,54,53,52,51,50,49,48,47,46,45,44,43,42,41,40,39,38,37,36,35,34,33,32,31,30,29,28,27,26,25,24,23,22,21,20,19,18,17,16,15,14,13,12,11,10,9,8,4,3,0] (fun j _ => [(10,.d (.int .i64 (j : Nat))),(9,.d (.int .i64 (q + ngI (cK i (l.take j))))),(8,.sl 22)]) (fun j (_ : Unit) => [(22,.arr 3 1 ((cK i (l.take j)).map (.int .i64)))]) ks.length (fun _ _ => True) () trivial (by refine Wk.auto ?_ ?_<;>simp [xb1,lk,killL,St.kill,xb4,xb6,AV.has,AV.hasL,AO.wipe,List.map_set,xc2,insL,xc4,ins,List.take_zero,hk0,hk1,Int.add_zero,List.map_nil]) ?_
   rintro R2 j _ hN2 hE2 hj _
   have hbd : 0<=ngI (cK i (l.take j))∧ngI (cK i (l.take j))<=j:=⟨yu0 _,by have:=zr2 (cK i (l.take j)); rw [yv9,List.length_take] at this; omega⟩
   have hkl : (cK i (l.take j)).length<=j:=by rw [yv9,List.length_take]; omega
   by_cases hjt : j < ks.length
   . have hej:=xl3 (xs:=ks) hjt
     have hb:=hkb _ (xc0 (z:=(0 : Int)) hjt)
     have hbt:=zo1 (b:=i) (k:=j) (by omega) (by omega)
     rw [show IntKind.bits .i64=64 from rfl] at hbt
     have hsj:=zt8 (code:=i) (l:=l) (i:=j) (by omega)
     have hsn:=ngI_cK (code:=i) hvp (i:=j) (by omega)
     rw [hget j hjt] at hsj
     have hjs : ((j : Int) + 1)=((j + 1 : Nat) : Int):=by omega
     refine Ok.seq (Ok.go ?_)
     simp (disch:=first | omega | decide +kernel) only [go_sem,Qa,Qb,Qc,Qd,Qe,↓reduceIte,reduceCtorEq,Qf,Qg,Qh]
     (repeat' (first | ((first | (refine xa0 ?_ ?_<;>intro q'<;>(have h':=q')<;>(try simp only [zz] at h')<;>try (exfalso; omega)))<;>(try simp (disch:=first | omega | decide +kernel) only [q',go_sem,Qa,Qb,Qc,Qd,Qe,↓reduceIte,reduceCtorEq,Qf,Qg,Qh])<;>clear q') | (with_reducible first | refine And.intro ?_ ?_ | omega) | (refine xa1 ?_; omega)))
     unfold bitI at hbt hsn
     by_cases hti : i.testBit j=true
     . rw [if_pos hti] at hbt hsj hsn
       rw [show -(ks.getD j 0 + 1)=0 - (ks.getD j 0 + 1) by omega] at hsj
       generalize cK i (l.take j)=ck at *
       generalize ks.getD j 0=k at *
       refine Ok.go ?_
       simp (disch:=first | omega | decide +kernel) only [hbt,hej,Int.toNat_natCast,go_sem,Qa,Qb,Qc,Qd,Qe,↓reduceIte,reduceCtorEq,Qf,Qg,Qh]
       (repeat' (first | ((first | (refine xa0 ?_ ?_<;>intro q'<;>(have h':=q')<;>(try simp only [zz] at h')<;>try (exfalso; omega)))<;>(try simp (disch:=first | omega | decide +kernel) only [q',hbt,hej,Int.toNat_natCast,go_sem,Qa,Qb,Qc,Qd,Qe,↓reduceIte,reduceCtorEq,Qf,Qg,Qh])<;>clear q') | (with_reducible first | refine And.intro ?_ ?_ | omega) | exact xa6 | (refine xa1 ?_; omega) | (refine za9 ⟨?_,?_⟩) | (simp only [go_sem,Qc,Qb,zb1,zb2,forall_eq]; done)))
       rw [hjs]
       refine hN2 () _ hjt trivial ?_
       rw [hsn,hsj]
       exact (by refine Wk.auto ?_ ?_<;>simp [xb1,lk,killL,St.kill,xb4,xb6,AV.has,AV.hasL,AO.wipe,List.map_set,xc2,insL,xc4,ins,List.map_append,List.map_cons,List.map_nil,Int.add_assoc])
     . rw [if_neg hti] at hbt hsj hsn
       generalize cK i (l.take j)=ck at *
       generalize ks.getD j 0=k at *
       refine Ok.go ?_
       simp (disch:=first | omega | decide +kernel) only [hbt,hej,Int.toNat_natCast,go_sem,Qa,Qb,Qc,Qd,Qe,↓reduceIte,reduceCtorEq,Qf,Qg,Qh]
       (repeat' (first | ((first | (refine xa0 ?_ ?_<;>intro q'<;>(have h':=q')<;>(try simp only [zz] at h')<;>try (exfalso; omega)))<;>(try simp (disch:=first | omega | decide +kernel) only [q',hbt,hej,Int.toNat_natCast,go_sem,Qa,Qb,Qc,Qd,Qe,↓reduceIte,reduceCtorEq,Qf,Qg,Qh])<;>clear q') | (with_reducible first | refine And.intro ?_ ?_ | omega) | exact xa6 | (refine xa1 ?_; omega) | (refine za9 ⟨?_,?_⟩) | (simp only [go_sem,Qc,Qb,zb1,zb2,forall_eq]; done)))
       rw [hjs]
       refine hN2 () _ hjt trivial ?_
       rw [hsn,hsj]
       exact (by refine Wk.auto ?_ ?_<;>simp [xb1,lk,killL,St.kill,xb4,xb6,AV.has,AV.hasL,AO.wipe,List.map_set,xc2,insL,xc4,ins,List.map_append,List.map_cons,List.map_nil,Int.add_zero])
   . obtain rfl : j=ks.length:=by omega
     have hle : l.take ks.length=l:=by rw [← hlen,List.take_length]
     rw [hle] at hbd ⊢
     clear hN2 hkl
     have c3:=l2InsertP_ok (clTo q l i) (cK i l) (by omega) (by rw [yv9]; omega) (zt9 hvs i) (fun x hx => by obtain ⟨code,_,_,rfl⟩:=((xx8 (ch:=q) hvs i).2 x).1 hx; rw [yv9]; omega) (xx8 (ch:=q) hvs i).1
     have htm : Int.tmod (q + ngI (cK i l)) 2=(q + ngI (cK i l)) % 2:=Int.tmod_eq_emod_of_nonneg (by omega)
     have hcs : clTo q l (i + 1)=if (q + ngI (cK i l)) % 2=1 then insI (clTo q l i) (cK i l) else clTo q l i:=rfl
     have his : ((i : Int) + 1)=((i + 1 : Nat) : Int):=by omega
     simp only [D.ints] at c3
     generalize ngI (cK i l)=ng at *
     generalize cK i l=ck at *
     generalize hI : insI (clTo q l i) ck=ins' at *
     generalize clTo q l i=cl at *
     refine Ok.go ?_
     simp (disch:=first | omega | decide +kernel) only [go_sem,Qa,Qb,Qc,Qd,Qe,↓reduceIte,reduceCtorEq,Qf,Qg,Qh]
     (repeat' (first | ((first | (refine xa0 ?_ ?_<;>intro q'<;>(have h':=q')<;>(try simp only [zz] at h')<;>try (exfalso; omega)))<;>(try simp (disch:=first | omega | decide +kernel) only [q',go_sem,Qa,Qb,Qc,Qd,Qe,↓reduceIte,reduceCtorEq,Qf,Qg,Qh])<;>clear q') | (with_reducible first | refine And.intro ?_ ?_ | omega) | (refine xa1 ?_; omega)))
     refine hE2 _ _ xa2 ?_
     simp (disch:=first | omega | decide +kernel) only [go_sem,Qa,Qb,Qc,Qd,Qe,↓reduceIte,reduceCtorEq,Qf,Qg,Qh]
     refine Ok.weak (Wk.frz (j:=22) rfl) ?_
     simp (disch:=first | omega | decide +kernel) only [St.frz,frzS,frzO,AV.frz,AV.frzL,AO.frz,go_sem,Qa,Qb,Qc,Qd,Qe,↓reduceIte,reduceCtorEq,Qf,Qg,Qh]
     by_cases ho : (q + ng) % 2=1
     . rw [if_pos ho] at hcs
       rw [ho] at htm
       refine Ok.go ?_
       simp (disch:=first | omega | decide +kernel) only [htm,go_sem,Qa,Qb,Qc,Qd,Qe,↓reduceIte,reduceCtorEq,Qf,Qg,Qh]
       (repeat' (first | ((first | (refine xa0 ?_ ?_<;>intro q'<;>(have h':=q')<;>(try simp only [zz] at h')<;>try (exfalso; omega)) | (have q':=trivial; first | refine xb3 (c3) rfl (by decide) ?_ | refine xb2 (c3) rfl ?_))<;>(try simp (disch:=first | omega | decide +kernel) only [q',htm,D.ints,go_sem,Qa,Qb,Qc,Qd,Qe,↓reduceIte,reduceCtorEq,Qf,Qg,Qh])<;>clear q') | (with_reducible first | refine And.intro ?_ ?_ | omega) | (refine xa1 ?_; omega)))
       refine Ok.go ?_
       simp (disch:=first | omega | decide +kernel) only [go_sem,Qa,Qb,Qc,Qd,Qe,↓reduceIte,reduceCtorEq,Qf,Qg,Qh]
       (repeat' (first | ((first | (refine xa0 ?_ ?_<;>intro q'<;>(have h':=q')<;>(try simp only [zz] at h')<;>try (exfalso; omega)))<;>(try simp (disch:=first | omega | decide +kernel) only [q',go_sem,Qa,Qb,Qc,Qd,Qe,↓reduceIte,reduceCtorEq,Qf,Qg,Qh])<;>clear q') | (with_reducible first | refine And.intro ?_ ?_ | omega) | (refine xa1 ?_; omega)))
       rw [his]
       refine hN () _ hlt trivial ?_
       rw [hcs]
       exact (by refine Wk.auto ?_ ?_<;>simp [xb1,lk,killL,St.kill,xb4,xb6,AV.has,AV.hasL,AO.wipe,List.map_set,xc2,insL,xc4,ins,])
     . rw [if_neg ho] at hcs
       have ho2 : ¬ (q + ng).tmod 2=1:=by rw [htm]; exact ho
       refine Ok.go ?_
       simp (disch:=first | omega | decide +kernel) only [ho2,go_sem,Qa,Qb,Qc,Qd,Qe,↓reduceIte,reduceCtorEq,Qf,Qg,Qh]
       (repeat' (first | ((first | (refine xa0 ?_ ?_<;>intro q'<;>(have h':=q')<;>(try simp only [zz] at h')<;>try (exfalso; omega)))<;>(try simp (disch:=first | omega | decide +kernel) only [q',ho2,go_sem,Qa,Qb,Qc,Qd,Qe,↓reduceIte,reduceCtorEq,Qf,Qg,Qh])<;>clear q') | (with_reducible first | refine And.intro ?_ ?_ | omega) | (refine xa1 ?_; omega)))
       refine Ok.go ?_
       simp (disch:=first | omega | decide +kernel) only [go_sem,Qa,Qb,Qc,Qd,Qe,↓reduceIte,reduceCtorEq,Qf,Qg,Qh]
       (repeat' (first | ((first | (refine xa0 ?_ ?_<;>intro q'<;>(have h':=q')<;>(try simp only [zz] at h')<;>try (exfalso; omega)))<;>(try simp (disch:=first | omega | decide +kernel) only [q',go_sem,Qa,Qb,Qc,Qd,Qe,↓reduceIte,reduceCtorEq,Qf,Qg,Qh])<;>clear q') | (with_reducible first | refine And.intro ?_ ?_ | omega) | (refine xa1 ?_; omega)))
       rw [his]
       refine hN () _ hlt trivial ?_
       rw [hcs]
       exact (by refine Wk.auto ?_ ?_<;>simp [xb1,lk,killL,St.kill,xb4,xb6,AV.has,AV.hasL,AO.wipe,List.map_set,xc2,insL,xc4,ins,])
 . obtain rfl : i=2 ^ ks.length:=by omega
   refine Ok.go ?_
   simp (disch:=first | omega | decide +kernel) only [hsl,List.length_map,go_sem,Qa,Qb,Qc,Qd,Qe,↓reduceIte,reduceCtorEq,Qf,Qg,Qh]
   (repeat' (first | ((first | (refine xa0 ?_ ?_<;>intro q'<;>(have h':=q')<;>(try simp only [zz] at h')<;>try (exfalso; omega)))<;>(try simp (disch:=first | omega | decide +kernel) only [q',hsl,List.length_map,go_sem,Qa,Qb,Qc,Qd,Qe,↓reduceIte,reduceCtorEq,Qf,Qg,Qh])<;>clear q') | (with_reducible first | refine And.intro ?_ ?_ | omega) | (refine xa1 ?_; omega)))
   refine hE1 _ _ xa2 ?_
   simp (disch:=first | omega | decide +kernel) only [go_sem,Qa,Qb,Qc,Qd,Qe,↓reduceIte,reduceCtorEq,Qf,Qg,Qh]
   refine Ok.go ?_
   simp (disch:=first | omega | decide +kernel) only [go_sem,Qa,Qb,Qc,Qd,Qe,↓reduceIte,reduceCtorEq,Qf,Qg,Qh]
   (repeat' (first | ((first | (refine xa0 ?_ ?_<;>intro q'<;>(have h':=q')<;>(try simp only [zz] at h')<;>try (exfalso; omega)))<;>(try simp (disch:=first | omega | decide +kernel) only [q',go_sem,Qa,Qb,Qc,Qd,Qe,↓reduceIte,reduceCtorEq,Qf,Qg,Qh])<;>clear q') | (with_reducible first | refine And.intro ?_ ?_ | omega) | (refine xa1 ?_; omega)))
   exact yt5 [] rfl
end Abs.Y

namespace Abs
open Go Go.Proofs
theorem zz0 {t : TypeId} {a : D} : ∀ β S w v F,OK β S w (.box t [.d a,.nilS]) v F->OK β S w (.box t [.d a,.d (.slice [])]) v F:=fun β S w v F h => by
 have key : ∀ y,Rel β S w .nilS y->Rel β S w (.d (.slice [])) y:=fun y h => by cases h; exact .d (.nil _)
 cases h with
 | box hF xs hv hw hr =>
   refine .box hF xs hv hw fun i hi => ?_
   have:=hr i hi
   match i,hi with
   | 0,_ => exact this
   | 1,_ => exact key _ this
end Abs
namespace Abs.Y
open Go Go.Proofs Abs
set_option maxRecDepth 100000

set_option maxHeartbeats 4000000 in
theorem parityCnfNo_ok (g : Chg) (hl : g.ed.length<=4294967296) (hc : g.ch.length<=4294967296) (hb : xc7 g=false) : Ctr Tryz.prog 7 [D.chg g] true (.tup [.d (.agg [.int .i64 0,.slice []]),.d (.bool false)]) []:=by
 have c1:=xl8 g hl hc
 rw [hb] at c1
 simp only [D.chg,D.ints] at c1
 refine Ctr.ofK (n:=58) (rs:=[.cell 2 31,.tmp 3]) Tryz.func7 rfl rfl Tryz.ntmps7 rfl rfl (by kernel_rfl) Tryz.checked.mixed ?_
 refine Ok.endsW ?_
 refine Ok.seq (Ok.go ?_)
 simp (disch:=first | omega | decide +kernel) only [D.chg,D.ints,go_sem,Qa,Qb,Qc,Qd,Qe,↓reduceIte,reduceCtorEq,Qf,Qg,Qh]
 refine Ok.go ?_
 simp (disch:=first | omega | decide +kernel) only [D.chg,D.ints,go_sem,Qa,Qb,Qc,Qd,Qe,↓reduceIte,reduceCtorEq,Qf,Qg,Qh]
 (repeat' (first | ((first | (refine xa0 ?_ ?_<;>intro q'<;>(have h':=q')<;>(try simp only [zz] at h')<;>try (exfalso; omega)) | (have q':=trivial; first | refine xa3 (c1) rfl (by decide) ?_ | refine xa4 (c1) rfl ?_))<;>(try simp (disch:=first | omega | decide +kernel) only [q',D.ints,go_sem,Qa,Qb,Qc,Qd,Qe,↓reduceIte,reduceCtorEq,Qf,Qg,Qh])<;>clear q') | (with_reducible first | refine And.intro ?_ ?_ | omega) | (refine xa1 ?_; omega)))
 exact ⟨_,Wk.obj 2 rfl zz0,yk2 [] rfl rfl rfl (by simp only [go_sem]) (by simp only [go_sem,List.length_cons,List.length_nil]) rfl (by simp only [go_sem])⟩
set_option maxHeartbeats 4000000 in
theorem specParityNo_ok (g : Chg) (hl : g.ed.length<=4294967296) (hc : g.ch.length<=4294967296) (hb : xc7 g=false) : Ctr Tryz.prog 8 [D.chg g] true (.tup [.d (.agg [.int .i64 0,.slice []]),.d (.bool false)]) []:=by
 have c1:=xt1 g hl hc
 rw [hb] at c1
 simp only [D.chg,D.ints] at c1
 refine Ctr.ofK (n:=29) (rs:=[.cell 2 31,.tmp 3]) Tryz.func8 rfl rfl Tryz.ntmps8 rfl rfl (by kernel_rfl) Tryz.checked.mixed ?_
 refine Ok.endsW ?_
 refine Ok.seq (Ok.go ?_)
 simp (disch:=first | omega | decide +kernel) only [D.chg,D.ints,go_sem,Qa,Qb,Qc,Qd,Qe,↓reduceIte,reduceCtorEq,Qf,Qg,Qh]
 refine Ok.go ?_
 simp (disch:=first | omega | decide +kernel) only [D.chg,D.ints,go_sem,Qa,Qb,Qc,Qd,Qe,↓reduceIte,reduceCtorEq,Qf,Qg,Qh]
 (repeat' (first | ((first | (refine xa0 ?_ ?_<;>intro q'<;>(have h':=q')<;>(try simp only [zz] at h')<;>try (exfalso; omega)) | (have q':=trivial; first | refine xa3 (c1) rfl (by decide) ?_ | refine xa4 (c1) rfl ?_))<;>(try simp (disch:=first | omega | decide +kernel) only [q',D.ints,go_sem,Qa,Qb,Qc,Qd,Qe,↓reduceIte,reduceCtorEq,Qf,Qg,Qh])<;>clear q') | (with_reducible first | refine And.intro ?_ ?_ | omega) | (refine xa1 ?_; omega)))
 exact ⟨_,Wk.obj 2 rfl zz0,yk2 [] rfl rfl rfl (by simp only [go_sem]) (by simp only [go_sem,List.length_cons,List.length_nil]) rfl (by simp only [go_sem])⟩
set_option maxHeartbeats 8000000 in
theorem specParity_ok (g : Chg) (hg : GoodP g) : Ctr Tryz.prog 8 [D.chg g] true (.tup [.d (.agg [.int .i64 (g.ed.length : Nat),.slice ((parI g).map D.ints)]),.d (.bool true)]) []:=by
 have hn:=hg.n1
 have hm:=hg.m
 have hcl:=hg.c
 have c1:=xt1 g (by omega) (by omega)
 rw [xf0.2 hg] at c1
 unfold parI
 have hpz : parT g 0=[]:=rfl
 refine Ctr.ofK (n:=29) (rs:=[.cell 2 31,.tmp 3]) Tryz.func8 rfl rfl Tryz.ntmps8 rfl rfl (by kernel_rfl) Tryz.checked.mixed ?_
 refine Ok.seq (Ok.go ?_)
 simp (disch:=first | omega | decide +kernel) only [D.chg,D.ints,go_sem,Qa,Qb,Qc,Qd,Qe,↓reduceIte,reduceCtorEq,Qf,Qg,Qh]
 simp only [D.chg,D.ints] at c1
 refine Ok.seq (Ok.go ?_)
 simp (disch:=first | omega | decide +kernel) only [D.chg,D.ints,go_sem,Qa,Qb,Qc,Qd,Qe,↓reduceIte,reduceCtorEq,Qf,Qg,Qh]
 (repeat' (first | ((first | (refine xa0 ?_ ?_<;>intro q'<;>(have h':=q')<;>(try simp only [zz] at h')<;>try (exfalso; omega)) | (have q':=trivial; first | refine xa3 (c1) rfl (by decide) ?_ | refine xa4 (c1) rfl ?_))<;>(try simp (disch:=first | omega | decide +kernel) only [q',D.ints,go_sem,Qa,Qb,Qc,Qd,Qe,↓reduceIte,reduceCtorEq,Qf,Qg,Qh])<;>clear q') | (with_reducible first | refine And.intro ?_ ?_ | omega) | (refine xa1 ?_; omega)))
 refine Ok.seq (Ok.go ?_)
 simp (disch:=first | omega | decide +kernel) only [List.length_map,go_sem,Qa,Qb,Qc,Qd,Qe,↓reduceIte,reduceCtorEq,Qf,Qg,Qh]
 (repeat' (first | ((first | (refine xa0 ?_ ?_<;>intro q'<;>(have h':=q')<;>(try simp only [zz] at h')<;>try (exfalso; omega)))<;>(try simp (disch:=first | omega | decide +kernel) only [q',List.length_map,go_sem,Qa,Qb,Qc,Qd,Qe,↓reduceIte,reduceCtorEq,Qf,Qg,Qh])<;>clear q') | (with_reducible first | refine And.intro ?_ ?_ | omega) | exact xa6 | (refine xa1 ?_; omega) | (refine za9 ⟨?_,?_⟩) | (simp only [go_sem,Qc,Qb,zb1,zb2,forall_eq]; done)))
 refine Ok.seq (Ok.seq (Ok.go ?_))
 simp (disch:=first | omega | decide +kernel) only [go_sem,Qa,Qb,Qc,Qd,Qe,↓reduceIte,reduceCtorEq,Qf,Qg,Qh]
 (repeat' (first | ((first | (refine xa0 ?_ ?_<;>intro q'<;>(have h':=q')<;>(try simp only [zz] at h')<;>try (exfalso; omega)))<;>(try simp (disch:=first | omega | decide +kernel) only [q',go_sem,Qa,Qb,Qc,Qd,Qe,↓reduceIte,reduceCtorEq,Qf,Qg,Qh])<;>clear q') | (with_reducible first | refine And.intro ?_ ?_ | omega) | (refine xa1 ?_; omega)))
 refine Ok.block ?_
 refine Ok.loopNO [28,27,26,25,24,23,22,21,20,19,18,17,16,15,14,13,12,11,10,9,8,7,6,5,0] (fun i _ => [(5,.d (.int .i64 (i : Nat)))]) (fun i (_ : Unit) => [(13,.arr 25 1 ((parT g i).map D.ints))]) g.ch.length (fun _ _ => True) () trivial (by refine Wk.auto ?_ ?_<;>simp [xb1,lk,killL,St.kill,xb4,xb6,AV.has,AV.hasL,AO.wipe,List.map_set,xc2,insL,xc4,ins,hpz,List.map_nil]) ?_
 rintro R i _ hN hE1 hi _
 have hpl:=yf8 hg hi
 by_cases hlt : i < g.ch.length
 . have c3:=l27Clauses_ok g hg i hlt
   have hsu:=xw6 g i
   have hxl : (parT g i).length + (xorI (vsI g i) (decide (g.ch.getD i 0=1))).length<=56:=by
    have:=yf8 hg (m:=i + 1) (by omega)
    rw [hsu,List.length_append] at this
    exact this
   simp only [D.chg,D.ints] at c3
   generalize xorI (vsI g i) (decide (g.ch.getD i 0=1))=xs at *
   refine Ok.seq (Ok.go ?_)
   simp (disch:=first | omega | decide +kernel) only [go_sem,Qa,Qb,Qc,Qd,Qe,↓reduceIte,reduceCtorEq,Qf,Qg,Qh]
   (repeat' (first | ((first | (refine xa0 ?_ ?_<;>intro q'<;>(have h':=q')<;>(try simp only [zz] at h')<;>try (exfalso; omega)))<;>(try simp (disch:=first | omega | decide +kernel) only [q',go_sem,Qa,Qb,Qc,Qd,Qe,↓reduceIte,reduceCtorEq,Qf,Qg,Qh])<;>clear q') | (with_reducible first | refine And.intro ?_ ?_ | omega) | (refine xa1 ?_; omega)))
   refine Ok.seq (Ok.block ?_)
   refine Ok.reg7 [true,true,true,true,false,false,true,false] (by decide +kernel) ?_
   simp (disch:=first | omega | decide +kernel) only [D.ints,go_sem,Qa,Qb,Qc,Qd,Qe,↓reduceIte,reduceCtorEq,Qf,Qg,Qh]
   (repeat' (first | ((first | (refine xa0 ?_ ?_<;>intro q'<;>(have h':=q')<;>(try simp only [zz] at h')<;>try (exfalso; omega)) | (have q':=trivial; first | refine xb3 (c3) rfl (by decide) ?_ | refine xb2 (c3) rfl ?_))<;>(try simp (disch:=first | omega | decide +kernel) only [q',D.ints,go_sem,Qa,Qb,Qc,Qd,Qe,↓reduceIte,reduceCtorEq,Qf,Qg,Qh])<;>clear q') | (with_reducible first | refine And.intro ?_ ?_ | omega) | (refine xa1 ?_; omega)))
   . exact fun y hy => by obtain ⟨q,_,rfl⟩:=List.mem_map.1 hy; exact ⟨rfl,fun x hx => by cases hx with | head => rfl | tail _ h => cases h⟩
   refine Ok.go ?_
   simp (disch:=first | omega | decide +kernel) only [go_sem,Qa,Qb,Qc,Qd,Qe,↓reduceIte,reduceCtorEq,Qf,Qg,Qh]
   (repeat' (first | ((first | (refine xa0 ?_ ?_<;>intro q'<;>(have h':=q')<;>(try simp only [zz] at h')<;>try (exfalso; omega)))<;>(try simp (disch:=first | omega | decide +kernel) only [q',go_sem,Qa,Qb,Qc,Qd,Qe,↓reduceIte,reduceCtorEq,Qf,Qg,Qh])<;>clear q') | (with_reducible first | refine And.intro ?_ ?_ | omega) | (refine xa1 ?_; omega)))
   rw [show (i : Int) + 1=((i + 1 : Nat) : Int) by omega]
   refine hN () _ hlt trivial ?_
   rw [hsu]
   exact (by refine Wk.auto ?_ ?_<;>simp [xb1,lk,killL,St.kill,xb4,xb6,AV.has,AV.hasL,AO.wipe,List.map_set,xc2,insL,xc4,ins,List.map_append])
 . obtain rfl : i=g.ch.length:=by omega
   refine Ok.go ?_
   simp (disch:=first | omega | decide +kernel) only [go_sem,Qa,Qb,Qc,Qd,Qe,↓reduceIte,reduceCtorEq,Qf,Qg,Qh]
   (repeat' (first | ((first | (refine xa0 ?_ ?_<;>intro q'<;>(have h':=q')<;>(try simp only [zz] at h')<;>try (exfalso; omega)))<;>(try simp (disch:=first | omega | decide +kernel) only [q',go_sem,Qa,Qb,Qc,Qd,Qe,↓reduceIte,reduceCtorEq,Qf,Qg,Qh])<;>clear q') | (with_reducible first | refine And.intro ?_ ?_ | omega) | (refine xa1 ?_; omega)))
   refine hE1 _ _ xa2 ?_
   simp (disch:=first | omega | decide +kernel) only [go_sem,Qa,Qb,Qc,Qd,Qe,↓reduceIte,reduceCtorEq,Qf,Qg,Qh]
   refine Ok.weak (Wk.frz (j:=13) rfl) ?_
   simp (disch:=first | omega | decide +kernel) only [St.frz,frzS,frzO,AV.frz,AV.frzL,AO.frz,go_sem,Qa,Qb,Qc,Qd,Qe,↓reduceIte,reduceCtorEq,Qf,Qg,Qh]
   refine Ok.go ?_
   simp (disch:=first | omega | decide +kernel) only [go_sem,Qa,Qb,Qc,Qd,Qe,↓reduceIte,reduceCtorEq,Qf,Qg,Qh]
   (repeat' (first | ((first | (refine xa0 ?_ ?_<;>intro q'<;>(have h':=q')<;>(try simp only [zz] at h')<;>try (exfalso; omega)))<;>(try simp (disch:=first | omega | decide +kernel) only [q',go_sem,Qa,Qb,Qc,Qd,Qe,↓reduceIte,reduceCtorEq,Qf,Qg,Qh])<;>clear q') | (with_reducible first | refine And.intro ?_ ?_ | omega) | exact xa6 | (refine xa1 ?_; omega) | (refine za9 ⟨?_,?_⟩) | (simp only [go_sem,Qc,Qb,zb1,zb2,forall_eq]; done)))
   exact yk2 [] rfl rfl rfl (by simp only [go_sem]) (by simp only [go_sem,List.length_cons,List.length_nil]) rfl (by simp only [go_sem])
end Abs.Y

namespace Go.Proofs
open Go.Shelf Go.RowKit Go.Lib Go.Sort
def Tryz.layZ_ren : Go.Shelf.Ren:=⟨fun | 5 => 121 | 8 => 139 | 7 => 138 | 19 => 162 | 20 => 163 | 10 => 153 | 11 => 154 | 12 => 155 | 13 => 156 | 14 => 157 | 15 => 158 | 16 => 159 | 17 => 160 | 18 => 161 | 30 => 172 | 31 => 173 | 32 => 174 | 33 => 175 | 34 => 176 | 35 => 177 | 40 => 188 | n => n,fun | 23 => 25 | 25 => 3 | 3 => 3 | 32 => 175 | 22 => 25 | 0 => 0 | 44 => 143 | 46 => 87 | 4 => 4 | 36 => 196 | 35 => 195 | 41 => 39 | 5 => 5 | 9 => 9 | 53 => 219 | 57 => 223 | 63 => 235 | 64 => 236 | n => n,fun | n => n⟩
theorem Tryz.layZ : Go.Proofs.SlLaysM.n5 Tryz.prog Tryz.layZ_ren:={
 mixed:=by kernel_rfl
 f5:=⟨Tryz.f121.name,by decide,Tryz.func121.trans (congrArg some (by kernel_rfl))⟩
 f7:=⟨Tryz.f138.name,by decide,Tryz.func138.trans (congrArg some (by kernel_rfl))⟩
 f8:=Tryz.func139.trans (congrArg some (by kernel_rfl))
 f10:=⟨Tryz.f153.name,by decide,Tryz.func153.trans (congrArg some (by kernel_rfl))⟩
 f11:=⟨Tryz.f154.name,by decide,Tryz.func154.trans (congrArg some (by kernel_rfl))⟩
 f12:=⟨Tryz.f155.name,by decide,Tryz.func155.trans (congrArg some (by kernel_rfl))⟩
 f13:=⟨Tryz.f156.name,by decide,Tryz.func156.trans (congrArg some (by kernel_rfl))⟩
 f14:=⟨Tryz.f157.name,by decide,Tryz.func157.trans (congrArg some (by kernel_rfl))⟩
 f15:=⟨Tryz.f158.name,by decide,Tryz.func158.trans (congrArg some (by kernel_rfl))⟩
 f16:=⟨Tryz.f159.name,by decide,Tryz.func159.trans (congrArg some (by kernel_rfl))⟩
 f17:=⟨Tryz.f160.name,by decide,Tryz.func160.trans (congrArg some (by kernel_rfl))⟩
 f18:=⟨Tryz.f161.name,by decide,Tryz.func161.trans (congrArg some (by kernel_rfl))⟩
 f19:=Tryz.func162.trans (congrArg some (by kernel_rfl))
 f20:=Tryz.func163.trans (congrArg some (by kernel_rfl))
 f30:=⟨Tryz.f172.name,by decide,Tryz.func172.trans (congrArg some (by kernel_rfl))⟩
 f31:=Tryz.func173.trans (congrArg some (by kernel_rfl))
 f32:=Tryz.func174.trans (congrArg some (by kernel_rfl))
 f33:=⟨Tryz.f175.name,by decide,Tryz.func175.trans (congrArg some (by kernel_rfl))⟩
 f34:=⟨Tryz.f176.name,by decide,Tryz.func176.trans (congrArg some (by kernel_rfl))⟩
 f35:=⟨Tryz.f177.name,by decide,Tryz.func177.trans (congrArg some (by kernel_rfl))⟩
 f40:=⟨Tryz.f188.name,by decide,Tryz.func188.trans (congrArg some (by kernel_rfl))⟩
 t0:=Tryz.underlying0
 a0:=Tryz.isAgg0
 z0:=Tryz.sizeOf0
 v0:=Tryz.zeroValue0
 t3:=Tryz.underlying3
 a3:=Tryz.isAgg3
 z3:=Tryz.sizeOf3
 v3:=Tryz.zeroValue3
 t4:=Tryz.underlying4
 a4:=Tryz.isAgg4
 z4:=Tryz.sizeOf4
 v4:=Tryz.zeroValue4
 t5:=Tryz.underlying5
 a5:=Tryz.isAgg5
 z5:=Tryz.sizeOf5
 v5:=Tryz.zeroValue5
 t9:=Tryz.underlying9
 a9:=Tryz.isAgg9
 z9:=Tryz.sizeOf9
 v9:=Tryz.zeroValue9
 t22:=Tryz.underlying25
 a22:=Tryz.isAgg25
 z22:=Tryz.sizeOf25
 v22:=Tryz.zeroValue25
 t23:=Tryz.underlying25
 a23:=Tryz.isAgg25
 z23:=Tryz.sizeOf25
 v23:=Tryz.zeroValue25
 t25:=Tryz.underlying3
 a25:=Tryz.isAgg3
 z25:=Tryz.sizeOf3
 v25:=Tryz.zeroValue3
 t32:=Tryz.underlying175
 a32:=Tryz.isAgg175
 z32:=Tryz.sizeOf175
 v32:=Tryz.zeroValue175
 t35:=Tryz.underlying195
 a35:=Tryz.isAgg195
 z35:=Tryz.sizeOf195
 v35:=Tryz.zeroValue195
 t36:=Tryz.underlying196
 a36:=Tryz.isAgg196
 z36:=Tryz.sizeOf196
 v36:=Tryz.zeroValue196
 t41:=Tryz.underlying39
 a41:=Tryz.isAgg39
 z41:=Tryz.sizeOf39
 v41:=Tryz.zeroValue39
 t44:=Tryz.underlying143
 a44:=Tryz.isAgg143
 z44:=Tryz.sizeOf143
 v44:=Tryz.zeroValue143
 t46:=Tryz.underlying87
 a46:=Tryz.isAgg87
 z46:=Tryz.sizeOf87
 v46:=Tryz.zeroValue87
 t53:=Tryz.underlying219
 a53:=Tryz.isAgg219
 z53:=Tryz.sizeOf219
 v53:=Tryz.zeroValue219
 t57:=Tryz.underlying223
 a57:=Tryz.isAgg223
 z57:=Tryz.sizeOf223
 v57:=Tryz.zeroValue223
 t63:=Tryz.underlying235
 a63:=Tryz.isAgg235
 z63:=Tryz.sizeOf235
 v63:=Tryz.zeroValue235
 t64:=Tryz.underlying236
 a64:=Tryz.isAgg236
 z64:=Tryz.sizeOf236
 v64:=Tryz.zeroValue236 }
end Go.Proofs
