/- What functions of this program compute, over plain data. No condition. -/
import Derived.Test.YtkccabajcdphkaaDoorPO4
set_option linter.all false
namespace Abs.Y
open Go Go.Proofs Abs
open Nat renaming reduceEqDiff -> Qa, reduceLT -> Qb, reduceAdd -> Qc, reduceMul -> Qd, reduceSub -> Qe, reduceLeDiff -> Qf, reduceSubDiff -> Qg, reduceBEq -> Qh
open Bool renaming not_eq_true' -> Ba, not_eq_false' -> Bb, and_eq_true -> Bc, or_eq_true -> Bh, or_eq_false_iff -> Be
open Int renaming ofNat_lt -> Ia, ofNat_le -> Ib, not_lt -> Ic, not_le -> Ie
open Decidable renaming not_not -> Da
set_option maxRecDepth 100000

set_option maxHeartbeats 4000000 in
theorem sPolyOf_ok (p v : Int) (ts : List (Int × Int)) (hl : ts.length<=1000) :
 Ctr Tryd.prog 21 [.int .i64 p,.int .i64 v,D.tms ts] true (.tup [.d (D.tms (polyR p v ts)),.d (.bool (okPO p v ts))]) []:=by
 have c1:=l18Prime_ok p v
 unfold polyR okPO
 cases hpr : primeB p v with
 | false =>
   rw [hpr] at c1
   simp only [Bool.false_and,Bool.false_eq_true,if_false]
   refine Ctr.of (n:=75) (rs:=[.tmp 6,.tmp 7]) Tryd.func21 rfl rfl Tryd.ntmps21 rfl rfl (by kernel_rfl) Tryd.checked.mixed ?_
   simp (disch:=first | omega | decide +kernel) only [go_sem,Qa,Qb,Qc,Qd,Qe,↓reduceIte,reduceCtorEq,Qf,Qg,Qh]
   (repeat' (first | ((first | (refine gsel_split (fun q' => ?_) (fun q' => ?_)<;>(have h':=q')<;>(try simp only [za1,za2,Ba,Bb,za3,ne_eq,za4,za5,za6,Ia,Ib,Ic,Ie,Da,Bc,Bh,Be,za7,za8] at h')<;>try (exfalso; omega)) | (have q':=trivial; first | refine callX_new (c1) rfl (by decide) ?_ | refine callY_new (c1) rfl ?_ | refine hE _ _ ret_ne ?_ | refine hE _ _ exit_ne ?_))<;>(try simp (disch:=first | omega | decide +kernel) only [q',go_sem,Qa,Qb,Qc,Qd,Qe,↓reduceIte,reduceCtorEq,Qf,Qg,Qh])<;>clear q') | refine hN _ ?_ ?_ Wk.kk | with_reducible refine And.intro ?_ ?_ | with_reducible omega | exact ok_ints | exact cells_ints | exact no_mem | with_reducible exact plain_ints | (refine le_maxLen ?_; omega) | (refine za9 ⟨?_,?_⟩) | (simp only [go_sem,Qc,Qb,zb1,zb2,forall_eq]; done)))
   all_goals (first | exact ret_s2 [19] rfl rfl)
 | true =>
   rw [hpr] at c1
   obtain ⟨hp,hu0,hu6⟩:=primeB_of hpr
   obtain ⟨u,rfl⟩:=Int.eq_ofNat_of_zero_le hu0
   by_cases h100 : ts.length<=100
   . have e : nV (u : Int)=2 ^ u:=rfl
     have hw : IntKind.wrap .i64 (p - 1)=p - 1:=wrap_of (by omega)
     have e1 : IntKind.wrap .i64 (1 * 2 ^ min u 64)=((2 ^ u : Nat) : Int):=shl_one (by omega)
     have h6:=pow_le6 (u:=u) (by omega)
     have h61 : 1<=2 ^ u:=Nat.one_le_two_pow
     have hsm:=sum_mod p (2 ^ u) ts
     have hsl:=sumT_len (2 ^ u) ts
     have c5:=fun {w : List Int} hl hv => l18Sparse_ok (p:=p) (by omega) (u:=u) (by omega) (v:=w) hl hv
     have hz : List.replicate (2 ^ u) (D.int .i64 0)=(List.replicate (2 ^ u) (0 : Int)).map (.int .i64):=by rw [List.map_replicate]
     have hbd : ∀ i,i<=ts.length->(∀ j,j < i->badT p ((2 ^ u : Nat) : Int) (ts.getD j (0,0))=false)->∀ k,0<=(sumT (2 ^ u) (ts.take i)).getD k 0∧(sumT (2 ^ u) (ts.take i)).getD k 0<=400:=fun i hi hI k => by
      have h1 : ∀ t ∈ ts.take i,0<=t.2∧t.2<=4:=fun t ht => by
       obtain ⟨j,hj,rfl⟩:=mem_getD (0,0) ht
       rw [List.length_take] at hj
       have hj2 : (ts.take i).getD j (0,0)=ts.getD j (0,0):=by
        rw [List.getD_eq_getElem?_getD,List.getElem?_take,if_pos (by omega),← List.getD_eq_getElem?_getD]
       rw [hj2]
       have:=hI j (by omega)
       simp only [badT,Be,Bb,Bc,decide_eq_true_eq] at this
       omega
      have:=sumT_bd (n:=2 ^ u) (c:=4) (K:=0) (ts.take i) (List.replicate (2 ^ u) 0) h1 (by decide) (fun k => by rw [getD_zero]; omega) k
      rw [List.length_take] at this
      unfold sumT
      omega
     have hbad : ∀ i,i < ts.length->badT p ((2 ^ u : Nat) : Int) (ts.getD i (0,0))=true->ts.any (badT p ((2 ^ u : Nat) : Int))=true:=fun i hi h => List.any_eq_true.2 ⟨_,getD_mem hi,h⟩
     have hgood : (∀ j,j < ts.length->badT p ((2 ^ u : Nat) : Int) (ts.getD j (0,0))=false)->ts.any (badT p ((2 ^ u : Nat) : Int))=false:=fun h => List.any_eq_false.2 fun x hx => by
      obtain ⟨j,hj,rfl⟩:=mem_getD (0,0) hx
      rw [h j hj]; simp
     have hlen : ∀ i,(sumT (2 ^ u) (ts.take i)).length=2 ^ u:=fun i => sumT_len _ _
     have hst : ∀ i,i < ts.length->sumT (2 ^ u) (ts.take (i + 1))=(sumT (2 ^ u) (ts.take i)).set (ts.getD i (0,0)).1.toNat ((sumT (2 ^ u) (ts.take i)).getD (ts.getD i (0,0)).1.toNat 0 + (ts.getD i (0,0)).2):=fun i hi => by
      unfold sumT
      rw [take_succ (0,0) ts i hi,List.foldl_append]; rfl
     have h0 : sumT (2 ^ u) (ts.take 0)=List.replicate (2 ^ u) 0:=rfl
     have hfin : sumT (2 ^ u) (ts.take ts.length)=sumT (2 ^ u) ts:=by rw [List.take_length]
     rw [decide_eq_true h100,e]
     obtain ⟨T,hT⟩ : ∃ T,T=if true && (true && !ts.any (badT p ((2 ^ u : Nat) : Int))) then spT (sumP p (2 ^ u) ts) else []:=⟨_,rfl⟩
     rw [← hT]
     generalize ts.any (badT p ((2 ^ u : Nat) : Int))=bb at *
     generalize sumP p (2 ^ u) ts=G at *
     unfold badT at hbad hgood hbd
     generalize 2 ^ u=n at *
     obtain ⟨f,hf⟩ : ∃ f : Nat->List Int,∀ i,f i=sumT n (ts.take i):=⟨_,fun _ => rfl⟩
     simp only [← hf] at hbd hlen hst h0 hfin
     rw [← hfin] at hsm
     clear hf hfin hsl
     refine Ctr.of (n:=75) (rs:=[.tmp 6,.tmp 7]) Tryd.func21 rfl rfl Tryd.ntmps21 rfl rfl (by kernel_rfl) Tryd.checked.mixed ?_
     simp (disch:=first | omega | decide +kernel) only [e1,go_sem,Qa,Qb,Qc,Qd,Qe,↓reduceIte,reduceCtorEq,Qf,Qg,Qh]
     (repeat' (first | ((first | (refine gsel_split (fun q' => ?_) (fun q' => ?_)<;>(have h':=q')<;>(try simp only [za1,za2,Ba,Bb,za3,ne_eq,za4,za5,za6,Ia,Ib,Ic,Ie,Da,Bc,Bh,Be,za7,za8] at h')<;>try (exfalso; omega)) | (have q':=trivial; first | refine callX_new (c1) rfl (by decide) ?_ | refine callY_new (c1) rfl ?_ | refine hE _ _ ret_ne ?_ | refine hE _ _ exit_ne ?_))<;>(try simp (disch:=first | omega | decide +kernel) only [q',e1,go_sem,Qa,Qb,Qc,Qd,Qe,↓reduceIte,reduceCtorEq,Qf,Qg,Qh])<;>clear q') | refine hN _ ?_ ?_ Wk.kk | with_reducible refine And.intro ?_ ?_ | with_reducible omega | exact ok_ints | exact cells_ints | exact no_mem | with_reducible exact plain_ints | (refine le_maxLen ?_; omega) | (refine za9 ⟨?_,?_⟩) | (simp only [go_sem,Qc,Qb,zb1,zb2,forall_eq]; done)))
     rw [hz,← h0]
     refine Ok.loopN [71,70,69,68,67,66,65,64,63,62,61,60,59,58,57,56,55,54,53,52,51,50,49,48,47,46,45,44,43,42,41,40,39,38,37,36,35,34,33,32,31,30,29,28,27,26,25,24,23,22,21,20,19,18,17,16,15,14,13,12,11,10,9,5,4,3] (fun i (_ : Unit) => [(9,.d (.int .i64 (i : Nat)))]) (fun i (_ : Unit) => [(22,.arr 3 1 ((f i).map (.int .i64)))]) ts.length
      (fun i _ => ∀ j,j < i->(!(decide (0<=(ts.getD j (0,0)).1) && decide ((ts.getD j (0,0)).1<=(n : Int) - 1)) || !(decide (0<=(ts.getD j (0,0)).2) && decide ((ts.getD j (0,0)).2<=p - 1)))=false) () (by simp) (Wk.kk) ?_
     rintro R i ⟨⟩ hN hE hi hI
     by_cases hlt : i < ts.length
     . have hes:=el_tm hlt
       have hs:=hst i hlt
       have hb:=hbd i hi hI
       have hl1:=hlen i
       have hba:=hbad i hlt
       have c2:=l1In_ok (ts.getD i (0,0)).1 0 ((n : Int) - 1)
       have c3:=l1In_ok (ts.getD i (0,0)).2 0 (p - 1)
       have hni : ((!(decide (0<=(ts.getD i (0,0)).1) && decide ((ts.getD i (0,0)).1<=(n : Int) - 1)) || !(decide (0<=(ts.getD i (0,0)).2) && decide ((ts.getD i (0,0)).2<=p - 1)))=false)->∀ j,j < i + 1->(!(decide (0<=(ts.getD j (0,0)).1) && decide ((ts.getD j (0,0)).1<=(n : Int) - 1)) || !(decide (0<=(ts.getD j (0,0)).2) && decide ((ts.getD j (0,0)).2<=p - 1)))=false:=fun h => all_succ (P:=fun j => (!(decide (0<=(ts.getD j (0,0)).1) && decide ((ts.getD j (0,0)).1<=(n : Int) - 1)) || !(decide (0<=(ts.getD j (0,0)).2) && decide ((ts.getD j (0,0)).2<=p - 1)))=false) hI h
       clear hst hbd hlen hbad hgood hI hsm
       generalize ts.getD i (0,0)=t at *
       generalize f i=w at *
       generalize f (i + 1)=w' at *
       by_cases ha : 0<=t.1∧t.1<=(n : Int) - 1
       . by_cases hc : 0<=t.2∧t.2<=p - 1
         . rw [decide_eq_true ha.1,decide_eq_true ha.2] at c2 hni
           rw [decide_eq_true hc.1,decide_eq_true hc.2] at c3 hni
           have hbk:=hb t.1.toNat
           simp (disch:=first | omega | decide +kernel) only [hes,e1,hw,go_sem,Qa,Qb,Qc,Qd,Qe,↓reduceIte,reduceCtorEq,Qf,Qg,Qh]
           (repeat' (first | ((first | (refine gsel_split (fun q' => ?_) (fun q' => ?_)<;>(have h':=q')<;>(try simp only [za1,za2,Ba,Bb,za3,ne_eq,za4,za5,za6,Ia,Ib,Ic,Ie,Da,Bc,Bh,Be,za7,za8] at h')<;>try (exfalso; omega)) | (have q':=trivial; first | refine callX_new (c2) rfl (by decide) ?_ | refine callY_new (c2) rfl ?_ | refine callX_new (c3) rfl (by decide) ?_ | refine callY_new (c3) rfl ?_ | refine hE _ _ ret_ne ?_ | refine hE _ _ exit_ne ?_))<;>(try simp (disch:=first | omega | decide +kernel) only [q',hes,e1,hw,go_sem,Qa,Qb,Qc,Qd,Qe,↓reduceIte,reduceCtorEq,Qf,Qg,Qh])<;>clear q') | refine hN _ ?_ ?_ Wk.kk | with_reducible refine And.intro ?_ ?_ | with_reducible omega | exact ok_ints | exact cells_ints | exact no_mem | with_reducible exact plain_ints | (refine le_maxLen ?_; omega) | (refine za9 ⟨?_,?_⟩) | (simp only [go_sem,Qc,Qb,zb1,zb2,forall_eq]; done)))
           all_goals (first | omega | (subst hs; exact hN () _ hlt (hni rfl) (by refine Wk.auto ?_ ?_<;>simp [extraK,lk,killL,St.kill,wipeO,wipeS,AV.has,AV.hasL,AO.wipe,List.map_set,updSt,insL,dropS,ins,List.map_set])))
         . have c3' : (decide (0<=t.2) && decide (t.2<=p - 1))=false:=by simpa using hc
           rw [c3'] at c3
           rw [decide_eq_true ha.1,decide_eq_true ha.2] at c2
           have hbt:=hba (by simp [c3'])
           subst hbt
           simp at hT
           subst hT
           simp (disch:=first | omega | decide +kernel) only [hes,e1,hw,go_sem,Qa,Qb,Qc,Qd,Qe,↓reduceIte,reduceCtorEq,Qf,Qg,Qh]
           (repeat' (first | ((first | (refine gsel_split (fun q' => ?_) (fun q' => ?_)<;>(have h':=q')<;>(try simp only [za1,za2,Ba,Bb,za3,ne_eq,za4,za5,za6,Ia,Ib,Ic,Ie,Da,Bc,Bh,Be,za7,za8] at h')<;>try (exfalso; omega)) | (have q':=trivial; first | refine callX_new (c2) rfl (by decide) ?_ | refine callY_new (c2) rfl ?_ | refine callX_new (c3) rfl (by decide) ?_ | refine callY_new (c3) rfl ?_ | refine hE _ _ ret_ne ?_ | refine hE _ _ exit_ne ?_))<;>(try simp (disch:=first | omega | decide +kernel) only [q',hes,e1,hw,go_sem,Qa,Qb,Qc,Qd,Qe,↓reduceIte,reduceCtorEq,Qf,Qg,Qh])<;>clear q') | refine hN _ ?_ ?_ Wk.kk | with_reducible refine And.intro ?_ ?_ | with_reducible omega | exact ok_ints | exact cells_ints | exact no_mem | with_reducible exact plain_ints | (refine le_maxLen ?_; omega) | (refine za9 ⟨?_,?_⟩) | (simp only [go_sem,Qc,Qb,zb1,zb2,forall_eq]; done)))
           all_goals (first | omega | exact ret_s2 [50] rfl rfl)
       . have c2' : (decide (0<=t.1) && decide (t.1<=(n : Int) - 1))=false:=by simpa using ha
         rw [c2'] at c2
         have hbt:=hba (by simp [c2'])
         subst hbt
         simp at hT
         subst hT
         simp (disch:=first | omega | decide +kernel) only [hes,e1,hw,go_sem,Qa,Qb,Qc,Qd,Qe,↓reduceIte,reduceCtorEq,Qf,Qg,Qh]
         (repeat' (first | ((first | (refine gsel_split (fun q' => ?_) (fun q' => ?_)<;>(have h':=q')<;>(try simp only [za1,za2,Ba,Bb,za3,ne_eq,za4,za5,za6,Ia,Ib,Ic,Ie,Da,Bc,Bh,Be,za7,za8] at h')<;>try (exfalso; omega)) | (have q':=trivial; first | refine callX_new (c2) rfl (by decide) ?_ | refine callY_new (c2) rfl ?_ | refine hE _ _ ret_ne ?_ | refine hE _ _ exit_ne ?_))<;>(try simp (disch:=first | omega | decide +kernel) only [q',hes,e1,hw,go_sem,Qa,Qb,Qc,Qd,Qe,↓reduceIte,reduceCtorEq,Qf,Qg,Qh])<;>clear q') | refine hN _ ?_ ?_ Wk.kk | with_reducible refine And.intro ?_ ?_ | with_reducible omega | exact ok_ints | exact cells_ints | exact no_mem | with_reducible exact plain_ints | (refine le_maxLen ?_; omega) | (refine za9 ⟨?_,?_⟩) | (simp only [go_sem,Qc,Qb,zb1,zb2,forall_eq]; done)))
         all_goals (first | omega | exact ret_s2 [50] rfl rfl)
     . obtain rfl : i=ts.length:=by omega
       have hbt:=hgood hI
       subst hbt
       have c6:=c5 (w:=f ts.length) (by rw [hlen]; omega) (fun k => by have:=hbd ts.length (Nat.le_refl _) hI k; omega)
       rw [hsm] at c6
       simp at hT
       rw [← hT] at c6
       simp only [D.ints] at c6
       simp (disch:=first | omega | decide +kernel) only [go_sem,Qa,Qb,Qc,Qd,Qe,↓reduceIte,reduceCtorEq,Qf,Qg,Qh]
       (repeat' (first | ((first | (refine gsel_split (fun q' => ?_) (fun q' => ?_)<;>(have h':=q')<;>(try simp only [za1,za2,Ba,Bb,za3,ne_eq,za4,za5,za6,Ia,Ib,Ic,Ie,Da,Bc,Bh,Be,za7,za8] at h')<;>try (exfalso; omega)) | (have q':=trivial; first | refine callX_new (c6) rfl (by decide) ?_ | refine callY_new (c6) rfl ?_ | refine hE _ _ ret_ne ?_ | refine hE _ _ exit_ne ?_))<;>(try simp (disch:=first | omega | decide +kernel) only [q',go_sem,Qa,Qb,Qc,Qd,Qe,↓reduceIte,reduceCtorEq,Qf,Qg,Qh])<;>clear q') | refine hN _ ?_ ?_ Wk.kk | with_reducible refine And.intro ?_ ?_ | with_reducible omega | exact ok_ints | exact cells_ints | exact no_mem | with_reducible exact plain_ints | (refine le_maxLen ?_; omega) | (refine za9 ⟨?_,?_⟩) | (simp only [go_sem,Qc,Qb,zb1,zb2,forall_eq]; done)))
       all_goals (first | omega | exact ret_s2 [7500000] rfl rfl)
   . rw [decide_eq_false h100]
     simp only [Bool.false_and,Bool.and_false,Bool.false_eq_true,if_false]
     refine Ctr.of (n:=75) (rs:=[.tmp 6,.tmp 7]) Tryd.func21 rfl rfl Tryd.ntmps21 rfl rfl (by kernel_rfl) Tryd.checked.mixed ?_
     simp (disch:=first | omega | decide +kernel) only [go_sem,Qa,Qb,Qc,Qd,Qe,↓reduceIte,reduceCtorEq,Qf,Qg,Qh]
     (repeat' (first | ((first | (refine gsel_split (fun q' => ?_) (fun q' => ?_)<;>(have h':=q')<;>(try simp only [za1,za2,Ba,Bb,za3,ne_eq,za4,za5,za6,Ia,Ib,Ic,Ie,Da,Bc,Bh,Be,za7,za8] at h')<;>try (exfalso; omega)) | (have q':=trivial; first | refine callX_new (c1) rfl (by decide) ?_ | refine callY_new (c1) rfl ?_ | refine hE _ _ ret_ne ?_ | refine hE _ _ exit_ne ?_))<;>(try simp (disch:=first | omega | decide +kernel) only [q',go_sem,Qa,Qb,Qc,Qd,Qe,↓reduceIte,reduceCtorEq,Qf,Qg,Qh])<;>clear q') | refine hN _ ?_ ?_ Wk.kk | with_reducible refine And.intro ?_ ?_ | with_reducible omega | exact ok_ints | exact cells_ints | exact no_mem | with_reducible exact plain_ints | (refine le_maxLen ?_; omega) | (refine za9 ⟨?_,?_⟩) | (simp only [go_sem,Qc,Qb,zb1,zb2,forall_eq]; done)))
     all_goals (first | exact ret_s2 [19] rfl rfl)
def okS (p v : Int) (a : List (Int × Int)) (k : Int) : Bool:=ok1 p v a && (decide (0<=k) && decide (k<=p - 1))
def scaleR (p v : Int) (a : List (Int × Int)) (k : Int) : List (Int × Int):=if okS p v a k then spT (addD p k (List.replicate (nV v) 0) (dnV v a)) else []
theorem l18Good1_ok (p v : Int) (a : List (Int × Int)) (hal : a.length<=1000) : Ctr Tryd.prog 73 [.int .i64 p,.int .i64 v,D.tms a] false (.d (.bool (ok1 p v a))) []:=by
 unfold ok1
 cases hpr : primeB p v with
 | false =>
   have c1:=l18Prime_ok p v
   rw [hpr] at c1
   refine Ctr.of (n:=57) (rs:=[.tmp 6]) Tryd.func73 rfl rfl Tryd.ntmps73 rfl rfl (by kernel_rfl) Tryd.checked.mixed ?_
   simp (disch:=first | omega | decide +kernel) only [go_sem,Qa,Qb,Qc,Qd,Qe,↓reduceIte,reduceCtorEq,Qf,Qg,Qh]
   (repeat' (first | ((first | (refine gsel_split (fun q' => ?_) (fun q' => ?_)<;>(have h':=q')<;>(try simp only [za1,za2,Ba,Bb,za3,ne_eq,za4,za5,za6,Ia,Ib,Ic,Ie,Da,Bc,Bh,Be,za7,za8] at h')<;>try (exfalso; omega)) | (have q':=trivial; first | refine callX_new (c1) rfl (by decide) ?_ | refine callY_new (c1) rfl ?_ | refine hE _ _ ret_ne ?_ | refine hE _ _ exit_ne ?_))<;>(try simp (disch:=first | omega | decide +kernel) only [q',go_sem,Qa,Qb,Qc,Qd,Qe,↓reduceIte,reduceCtorEq,Qf,Qg,Qh])<;>clear q') | refine hN _ ?_ ?_ Wk.kk | with_reducible refine And.intro ?_ ?_ | with_reducible omega | exact ok_ints | exact cells_ints | exact no_mem | with_reducible exact plain_ints | (refine le_maxLen ?_; omega) | (refine za9 ⟨?_,?_⟩) | (simp only [go_sem,Qc,Qb,zb1,zb2,forall_eq]; done)))
 | true =>
   obtain ⟨hp,hu0,hu6⟩:=primeB_of hpr
   obtain ⟨z,rfl⟩:=Int.eq_ofNat_of_zero_le hu0
   exact l18Good_ok hp (u:=z) (by omega) (a:=a) (by omega) hpr
theorem iScale_ok (p v : Int) (a : List (Int × Int)) (k : Int) (hal : a.length<=1000) (hpb : -100000<=p∧p<=100000) :
 Ctr Tryd.prog 17 [.int .i64 p,.int .i64 v,D.tms a,.int .i64 k] true (.tup [.d (D.tms (scaleR p v a k)),.d (.bool (okS p v a k))]) []:=by
 have c1:=Ctr.eat3 (e:=24) (k:=1) (Ctr.tupN (ys:=[_,_,_]) (polys1_ok p v a hal))
 have c0:=within_ok k 0 (p - 1)
 have hw : IntKind.wrap .i64 (p - 1)=p - 1:=wrap_of (by omega)
 unfold scaleR okS
 cases h : ok1 p v a with
 | false =>
   simp only [h,Bool.false_eq_true,if_false,Bool.false_and] at c1 ⊢
   refine Ctr.of (n:=40) (rs:=[.tmp 8,.tmp 9]) Tryd.func17 rfl rfl Tryd.ntmps17 rfl rfl (by kernel_rfl) Tryd.checked.mixed ?_
   simp (disch:=first | omega | decide +kernel) only [go_sem,Qa,Qb,Qc,Qd,Qe,↓reduceIte,reduceCtorEq,Qf,Qg,Qh]
   (repeat' (first | ((first | (refine gsel_split (fun q' => ?_) (fun q' => ?_)<;>(have h':=q')<;>(try simp only [za1,za2,Ba,Bb,za3,ne_eq,za4,za5,za6,Ia,Ib,Ic,Ie,Da,Bc,Bh,Be,za7,za8] at h')<;>try (exfalso; omega)) | (have q':=trivial; first | refine callX_mut [17] [17] [17] (c1) ⟨.inl rfl,.inl rfl,.inl rfl,trivial⟩ ⟨rfl,trivial⟩ rfl (by simp [dstB]) ?_ | refine hE _ _ ret_ne ?_ | refine hE _ _ exit_ne ?_))<;>(try simp (disch:=first | omega | decide +kernel) only [q',go_sem,Qa,Qb,Qc,Qd,Qe,↓reduceIte,reduceCtorEq,Qf,Qg,Qh])<;>clear q') | refine hN _ ?_ ?_ Wk.kk | with_reducible refine And.intro ?_ ?_ | with_reducible omega | exact ok_ints | exact cells_ints | exact no_mem | with_reducible exact plain_ints | (refine le_maxLen ?_; omega) | (refine za9 ⟨?_,?_⟩) | (simp only [go_sem,Qc,Qb,zb1,zb2,forall_eq]; done)))
   all_goals (first | exact ret_s2 [8] rfl rfl)
 | true =>
   obtain ⟨u,g,hn,ha⟩:=ok1_of h
   have hp:=g.hp
   have h6:=pow_le6 g.hu
   have va:=Vec.dn (p:=p) (by omega) (isT_tms ha)
   obtain rfl:=g.hv
   by_cases hk : 0<=k∧k<=p - 1
   . rw [decide_eq_true hk.1,decide_eq_true hk.2] at c0 ⊢
     have c9:=Ctr.data1 (zero_ok g.hp g.hu)
     have c2:=Ctr.data1 (plus_ok g.hp g.hu (Vec.zero (p:=p) (by omega) (2 ^ u)) va (k:=k) (by omega))
     have c3:=termsP_ok (v:=addD p k (List.replicate (2 ^ u) 0) (dnT (2 ^ u) a)) (by have:=(Vec.addD (p:=p) (k:=k) (n:=2 ^ u) (a:=List.replicate (2 ^ u) 0) (b:=dnT (2 ^ u) a) (by omega) (by simp) va.1).1; omega)
     simp only [h,if_true,dnV,hn,D.ints,Bool.and_self] at c1 c2 c3 c9 ⊢
     unfold D.spP at c3
     generalize spT (addD p k (List.replicate (2 ^ u) 0) (dnT (2 ^ u) a))=T at *
     generalize addD p k (List.replicate (2 ^ u) 0) (dnT (2 ^ u) a)=m at *
     generalize dnT (2 ^ u) a=x at *
     generalize List.replicate (2 ^ u) (0 : Int)=z at *
     have h0 : el [D.slice (x.map (.int .i64))] 0=.slice (x.map (.int .i64)):=rfl
     refine Ctr.of (n:=40) (rs:=[.tmp 8,.tmp 9]) Tryd.func17 rfl rfl Tryd.ntmps17 rfl rfl (by kernel_rfl) Tryd.checked.mixed ?_
     simp (disch:=first | omega | decide +kernel) only [h0,hw,go_sem,Qa,Qb,Qc,Qd,Qe,↓reduceIte,reduceCtorEq,Qf,Qg,Qh]
     (repeat' (first | ((first | (refine gsel_split (fun q' => ?_) (fun q' => ?_)<;>(have h':=q')<;>(try simp only [za1,za2,Ba,Bb,za3,ne_eq,za4,za5,za6,Ia,Ib,Ic,Ie,Da,Bc,Bh,Be,za7,za8] at h')<;>try (exfalso; omega)) | (have q':=trivial; first | refine callX_mut [17] [17] [17] (c1) ⟨.inl rfl,.inl rfl,.inl rfl,trivial⟩ ⟨rfl,trivial⟩ rfl (by simp [dstB]) ?_ | refine callX_new (c0) rfl (by decide) ?_ | refine callY_new (c0) rfl ?_ | refine callX_shared (c9) rfl (by decide) ?_ | refine callY_shared (c9) rfl ?_ | refine callX_shared (c2) rfl (by decide) ?_ | refine callY_shared (c2) rfl ?_ | refine callX_shared (c3) rfl (by decide) ?_ | refine callY_shared (c3) rfl ?_ | refine hE _ _ ret_ne ?_ | refine hE _ _ exit_ne ?_))<;>(try simp (disch:=first | omega | decide +kernel) only [q',h0,hw,go_sem,Qa,Qb,Qc,Qd,Qe,↓reduceIte,reduceCtorEq,Qf,Qg,Qh])<;>clear q') | refine hN _ ?_ ?_ Wk.kk | with_reducible refine And.intro ?_ ?_ | with_reducible omega | exact ok_ints | exact cells_ints | exact no_mem | with_reducible exact plain_ints | (refine le_maxLen ?_; omega) | (refine za9 ⟨?_,?_⟩) | (simp only [go_sem,Qc,Qb,zb1,zb2,forall_eq]; done)))
     all_goals (first | exact ret_s2 [] rfl rfl)
   . have hk' : (decide (0<=k) && decide (k<=p - 1))=false:=by simpa using hk
     rw [hk'] at c0 ⊢
     simp only [h,if_true,dnV,hn,D.ints,Bool.and_false,Bool.false_eq_true,if_false] at c1 ⊢
     generalize dnT (2 ^ u) a=x at *
     refine Ctr.of (n:=40) (rs:=[.tmp 8,.tmp 9]) Tryd.func17 rfl rfl Tryd.ntmps17 rfl rfl (by kernel_rfl) Tryd.checked.mixed ?_
     simp (disch:=first | omega | decide +kernel) only [hw,go_sem,Qa,Qb,Qc,Qd,Qe,↓reduceIte,reduceCtorEq,Qf,Qg,Qh]
     (repeat' (first | ((first | (refine gsel_split (fun q' => ?_) (fun q' => ?_)<;>(have h':=q')<;>(try simp only [za1,za2,Ba,Bb,za3,ne_eq,za4,za5,za6,Ia,Ib,Ic,Ie,Da,Bc,Bh,Be,za7,za8] at h')<;>try (exfalso; omega)) | (have q':=trivial; first | refine callX_mut [17] [17] [17] (c1) ⟨.inl rfl,.inl rfl,.inl rfl,trivial⟩ ⟨rfl,trivial⟩ rfl (by simp [dstB]) ?_ | refine callX_new (c0) rfl (by decide) ?_ | refine callY_new (c0) rfl ?_ | refine hE _ _ ret_ne ?_ | refine hE _ _ exit_ne ?_))<;>(try simp (disch:=first | omega | decide +kernel) only [q',hw,go_sem,Qa,Qb,Qc,Qd,Qe,↓reduceIte,reduceCtorEq,Qf,Qg,Qh])<;>clear q') | refine hN _ ?_ ?_ Wk.kk | with_reducible refine And.intro ?_ ?_ | with_reducible omega | exact ok_ints | exact cells_ints | exact no_mem | with_reducible exact plain_ints | (refine le_maxLen ?_; omega) | (refine za9 ⟨?_,?_⟩) | (simp only [go_sem,Qc,Qb,zb1,zb2,forall_eq]; done)))
     all_goals (first | exact ret_s2 [8] rfl rfl)
theorem sScale_ok (p v : Int) (a : List (Int × Int)) (k : Int) (hal : a.length<=1000) (hpb : -100000<=p∧p<=100000) :
 Ctr Tryd.prog 18 [.int .i64 p,.int .i64 v,D.tms a,.int .i64 k] true (.tup [.d (D.tms (scaleR p v a k)),.d (.bool (okS p v a k))]) []:=by
 have c1:=l18Good1_ok p v a hal
 have c0:=l1In_ok k 0 (p - 1)
 have hw : IntKind.wrap .i64 (p - 1)=p - 1:=wrap_of (by omega)
 unfold scaleR okS
 cases h : ok1 p v a with
 | false =>
   simp only [h,Bool.false_eq_true,if_false,Bool.false_and] at c1 ⊢
   refine Ctr.of (n:=29) (rs:=[.tmp 8,.tmp 9]) Tryd.func18 rfl rfl Tryd.ntmps18 rfl rfl (by kernel_rfl) Tryd.checked.mixed ?_
   simp (disch:=first | omega | decide +kernel) only [go_sem,Qa,Qb,Qc,Qd,Qe,↓reduceIte,reduceCtorEq,Qf,Qg,Qh]
   (repeat' (first | ((first | (refine gsel_split (fun q' => ?_) (fun q' => ?_)<;>(have h':=q')<;>(try simp only [za1,za2,Ba,Bb,za3,ne_eq,za4,za5,za6,Ia,Ib,Ic,Ie,Da,Bc,Bh,Be,za7,za8] at h')<;>try (exfalso; omega)) | (have q':=trivial; first | refine callX_new (c1) rfl (by decide) ?_ | refine callY_new (c1) rfl ?_ | refine hE _ _ ret_ne ?_ | refine hE _ _ exit_ne ?_))<;>(try simp (disch:=first | omega | decide +kernel) only [q',go_sem,Qa,Qb,Qc,Qd,Qe,↓reduceIte,reduceCtorEq,Qf,Qg,Qh])<;>clear q') | refine hN _ ?_ ?_ Wk.kk | with_reducible refine And.intro ?_ ?_ | with_reducible omega | exact ok_ints | exact cells_ints | exact no_mem | with_reducible exact plain_ints | (refine le_maxLen ?_; omega) | (refine za9 ⟨?_,?_⟩) | (simp only [go_sem,Qc,Qb,zb1,zb2,forall_eq]; done)))
   all_goals (first | exact ret_s2 [22] rfl rfl)
 | true =>
   obtain ⟨u,g,hn,ha⟩:=ok1_of h
   have hp:=g.hp
   obtain rfl:=g.hv
   rw [h] at c1
   by_cases hk : 0<=k∧k<=p - 1
   . rw [decide_eq_true hk.1,decide_eq_true hk.2] at c0 ⊢
     have c2:=l18AddK_ok g.hp g.hu (a:=[]) (b:=a) (k:=k) (by omega) (by simp) (by omega) (fun t ht => by simp at ht) (isT_tms ha)
     have e : dnT (2 ^ u) []=List.replicate (2 ^ u) 0:=rfl
     rw [e] at c2
     simp only [List.map_nil,dnV,hn,Bool.and_self,if_true] at c2 ⊢
     generalize spT (addD p k (List.replicate (2 ^ u) 0) (dnT (2 ^ u) a))=T at *
     refine Ctr.of (n:=29) (rs:=[.tmp 8,.tmp 9]) Tryd.func18 rfl rfl Tryd.ntmps18 rfl rfl (by kernel_rfl) Tryd.checked.mixed ?_
     simp (disch:=first | omega | decide +kernel) only [hw,go_sem,Qa,Qb,Qc,Qd,Qe,↓reduceIte,reduceCtorEq,Qf,Qg,Qh]
     (repeat' (first | ((first | (refine gsel_split (fun q' => ?_) (fun q' => ?_)<;>(have h':=q')<;>(try simp only [za1,za2,Ba,Bb,za3,ne_eq,za4,za5,za6,Ia,Ib,Ic,Ie,Da,Bc,Bh,Be,za7,za8] at h')<;>try (exfalso; omega)) | (have q':=trivial; first | refine callX_new (c1) rfl (by decide) ?_ | refine callY_new (c1) rfl ?_ | refine callX_new (c0) rfl (by decide) ?_ | refine callY_new (c0) rfl ?_ | refine callX_new (c2) rfl (by decide) ?_ | refine callY_new (c2) rfl ?_ | refine hE _ _ ret_ne ?_ | refine hE _ _ exit_ne ?_))<;>(try simp (disch:=first | omega | decide +kernel) only [q',hw,go_sem,Qa,Qb,Qc,Qd,Qe,↓reduceIte,reduceCtorEq,Qf,Qg,Qh])<;>clear q') | refine hN _ ?_ ?_ Wk.kk | with_reducible refine And.intro ?_ ?_ | with_reducible omega | exact ok_ints | exact cells_ints | exact no_mem | with_reducible exact plain_ints | (refine le_maxLen ?_; omega) | (refine za9 ⟨?_,?_⟩) | (simp only [go_sem,Qc,Qb,zb1,zb2,forall_eq]; done)))
     all_goals (first | exact ret_s2 [2900000] rfl rfl)
   . have hk' : (decide (0<=k) && decide (k<=p - 1))=false:=by simpa using hk
     rw [hk'] at c0 ⊢
     simp only [Bool.and_false,Bool.false_eq_true,if_false]
     refine Ctr.of (n:=29) (rs:=[.tmp 8,.tmp 9]) Tryd.func18 rfl rfl Tryd.ntmps18 rfl rfl (by kernel_rfl) Tryd.checked.mixed ?_
     simp (disch:=first | omega | decide +kernel) only [hw,go_sem,Qa,Qb,Qc,Qd,Qe,↓reduceIte,reduceCtorEq,Qf,Qg,Qh]
     (repeat' (first | ((first | (refine gsel_split (fun q' => ?_) (fun q' => ?_)<;>(have h':=q')<;>(try simp only [za1,za2,Ba,Bb,za3,ne_eq,za4,za5,za6,Ia,Ib,Ic,Ie,Da,Bc,Bh,Be,za7,za8] at h')<;>try (exfalso; omega)) | (have q':=trivial; first | refine callX_new (c1) rfl (by decide) ?_ | refine callY_new (c1) rfl ?_ | refine callX_new (c0) rfl (by decide) ?_ | refine callY_new (c0) rfl ?_ | refine hE _ _ ret_ne ?_ | refine hE _ _ exit_ne ?_))<;>(try simp (disch:=first | omega | decide +kernel) only [q',hw,go_sem,Qa,Qb,Qc,Qd,Qe,↓reduceIte,reduceCtorEq,Qf,Qg,Qh])<;>clear q') | refine hN _ ?_ ?_ Wk.kk | with_reducible refine And.intro ?_ ?_ | with_reducible omega | exact ok_ints | exact cells_ints | exact no_mem | with_reducible exact plain_ints | (refine le_maxLen ?_; omega) | (refine za9 ⟨?_,?_⟩) | (simp only [go_sem,Qc,Qb,zb1,zb2,forall_eq]; done)))
     all_goals (first | exact ret_s2 [22] rfl rfl)
theorem iCoeffAt_ok (p v : Int) (a : List (Int × Int)) (hal : a.length<=1000) (h : ok1 p v a=true) (h0 : 0 < a.length) :
 Ctr Tryd.prog 22 [.int .i64 p,.int .i64 v,D.tms a,.int .i64 (a.getD 0 (0,0)).1] false (.tup [.d (.int .i64 (a.getD 0 (0,0)).2),.d (.bool true)]) []:=by
 have c1:=Ctr.eat3 (e:=24) (k:=1) (Ctr.tupN (ys:=[_,_,_]) (polys1_ok p v a hal))
 obtain ⟨u,g,hn,ha⟩:=ok1_of h
 have h6:=pow_le6 g.hu
 have hT:=isT_tms ha
 obtain ⟨k,hk,hk1,hc⟩:=mem_tms hT h0
 have hd:=dn_at ha h0
 have hdl:=dnT_len (2 ^ u) a
 rw [hk1] at hd ⊢
 rw [Int.toNat_natCast] at hd
 obtain rfl:=g.hv
 have c2:=bitsOk_ok g.hu (k : Nat)
 rw [decide_eq_true (show (0 : Int)<=(k : Nat) by omega),decide_eq_true (show ((k : Nat) : Int)<=((2 ^ u : Nat) : Int) - 1 by omega)] at c2
 simp only [h,if_true,dnV,hn,D.ints] at c1
 rw [← hd]
 generalize dnT (2 ^ u) a=x at *
 generalize 2 ^ u=n at *
 have h0' : el [D.slice (x.map (.int .i64))] 0=.slice (x.map (.int .i64)):=rfl
 have hei : el (x.map (D.int .i64)) k=.int .i64 (x.getD k 0):=el_ints (by omega)
 refine Ctr.of (n:=36) (rs:=[.tmp 8,.tmp 9]) Tryd.func22 rfl rfl Tryd.ntmps22 rfl rfl (by kernel_rfl) Tryd.checked.mixed ?_
 simp (disch:=first | omega | decide +kernel) only [h0',hei,Int.toNat_natCast,go_sem,Qa,Qb,Qc,Qd,Qe,↓reduceIte,reduceCtorEq,Qf,Qg,Qh]
 (repeat' (first | ((first | (refine gsel_split (fun q' => ?_) (fun q' => ?_)<;>(have h':=q')<;>(try simp only [za1,za2,Ba,Bb,za3,ne_eq,za4,za5,za6,Ia,Ib,Ic,Ie,Da,Bc,Bh,Be,za7,za8] at h')<;>try (exfalso; omega)) | (have q':=trivial; first | refine callX_mut [17] [17] [17] (c1) ⟨.inl rfl,.inl rfl,.inl rfl,trivial⟩ ⟨rfl,trivial⟩ rfl (by simp [dstB]) ?_ | refine callX_new (c2) rfl (by decide) ?_ | refine callY_new (c2) rfl ?_ | refine hE _ _ ret_ne ?_ | refine hE _ _ exit_ne ?_))<;>(try simp (disch:=first | omega | decide +kernel) only [q',h0',hei,Int.toNat_natCast,go_sem,Qa,Qb,Qc,Qd,Qe,↓reduceIte,reduceCtorEq,Qf,Qg,Qh])<;>clear q') | refine hN _ ?_ ?_ Wk.kk | with_reducible refine And.intro ?_ ?_ | with_reducible omega | exact ok_ints | exact cells_ints | exact no_mem | with_reducible exact plain_ints | (refine le_maxLen ?_; omega) | (refine za9 ⟨?_,?_⟩) | (simp only [go_sem,Qc,Qb,zb1,zb2,forall_eq]; done)))
 all_goals trace_state
end Abs.Y
