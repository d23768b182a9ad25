/- What functions of this program compute, over plain data. No condition. -/
import Derived.Test.YtdohpocdlkcaoaaGreatJ12
set_option linter.all false
namespace Abs.Y
open Go Go.Proofs Abs
open Nat renaming reduceEqDiff -> Qa, reduceLT -> Qb, reduceAdd -> Qc, reduceMul -> Qd, reduceSub -> Qe, reduceLeDiff -> Qf, reduceSubDiff -> Qg, reduceBEq -> Qh
open Bool renaming not_eq_true' -> Ba, not_eq_false' -> Bb, and_eq_true -> Bc, or_eq_true -> Bd, or_eq_false_iff -> Be
open Int renaming ofNat_lt -> Ia, ofNat_le -> Ib, not_lt -> Ic, not_le -> Ie
open Decidable renaming not_not -> Da
set_option maxRecDepth 100000

set_option maxHeartbeats 8000000 in
theorem specPP_ok (n : Int) : Ctr Tryz.prog 11 [.int .i64 n] true (.tup [.d (.slice ((ppI n).map D.pst)),.d (.bool (okPP n))]) []:=by
 have c1:=l17Holes_ok n
 unfold ppI
 cases h1 : okPP n with
 | false =>
   rw [show (decide (1<=n) && decide (n<=3))=false from h1] at c1
   rw [if_neg (by decide)]
   refine Ctr.of (n:=89) (rs:=[.tmp 2,.tmp 3]) Tryz.func11 rfl rfl Tryz.ntmps11 rfl rfl (by kernel_rfl) Tryz.checked.mixed ?_
   simp (disch:=first | omega | decide +kernel) only [List.map_nil,go_sem,Qa,Qb,Qc,Qd,Qe,↓reduceIte,reduceCtorEq,Qf,Qg,Qh]
   (repeat' (first | ((first | (refine gsel_split (fun q' => ?_) (fun q' => ?_)<;>(have h':=q')<;>(try simp only [za1,za2,Ba,Bb,za3,ne_eq,za4,za5,za6,Ia,Ib,Ic,Ie,Da,Bc,Bd,Be,za7,za8] at h')) | (have q':=trivial; first | refine callX_new (c1) rfl (by decide) ?_ | refine callY_new (c1) rfl ?_ | refine hE _ _ ret_ne ?_ | refine hE _ _ exit_ne ?_))<;>(try simp (disch:=first | omega | decide +kernel) only [q',List.map_nil,go_sem,Qa,Qb,Qc,Qd,Qe,↓reduceIte,reduceCtorEq,Qf,Qg,Qh])<;>clear q') | refine hN _ ?_ ?_ Wk.kk | with_reducible refine And.intro ?_ ?_ | with_reducible omega | exact ok_ints | exact cells_ints | exact no_mem | with_reducible exact plain_ints | (refine le_maxLen ?_; omega) | (refine za9 ⟨?_,?_⟩) | (simp only [go_sem,Qc,Qb,zb1,zb2,forall_eq]; done)))
   all_goals exact ret_fd [14] rfl rfl
 | true =>
   rw [show (decide (1<=n) && decide (n<=3))=true from h1] at c1
   rw [if_pos rfl]
   simp only [okPP,Bc,decide_eq_true_eq] at h1
   obtain ⟨a,rfl⟩ : ∃ a : Nat,n=a:=⟨n.toNat,by omega⟩
   have hn : 1<=a∧a<=3:=by omega
   have c2:=l17Cnf_ok a (by omega)
   rw [Int.toNat_natCast]
   obtain ⟨la,⟨lb,lc⟩,_⟩:=len_all a (by omega)
   refine Ctr.of (n:=89) (rs:=[.tmp 2,.tmp 3]) Tryz.func11 rfl rfl Tryz.ntmps11 rfl rfl (by kernel_rfl) Tryz.checked.mixed ?_
   simp (disch:=first | omega | decide +kernel) only [List.map_nil,go_sem,Qa,Qb,Qc,Qd,Qe,↓reduceIte,reduceCtorEq,Qf,Qg,Qh]
   (repeat' (first | ((first | (refine gsel_split (fun q' => ?_) (fun q' => ?_)<;>(have h':=q')<;>(try simp only [za1,za2,Ba,Bb,za3,ne_eq,za4,za5,za6,Ia,Ib,Ic,Ie,Da,Bc,Bd,Be,za7,za8] at h')) | (have q':=trivial; first | refine callX_new (c1) rfl (by decide) ?_ | refine callY_new (c1) rfl ?_ | refine callX_shared (c2) rfl (by decide) ?_ | refine callY_shared (c2) rfl ?_ | refine hE _ _ ret_ne ?_ | refine hE _ _ exit_ne ?_))<;>(try simp (disch:=first | omega | decide +kernel) only [q',List.map_nil,go_sem,Qa,Qb,Qc,Qd,Qe,↓reduceIte,reduceCtorEq,Qf,Qg,Qh])<;>clear q') | refine hN _ ?_ ?_ Wk.kk | with_reducible refine And.intro ?_ ?_ | with_reducible omega | exact ok_ints | exact cells_ints | exact no_mem | with_reducible exact plain_ints | (refine le_maxLen ?_; omega) | (refine za9 ⟨?_,?_⟩) | (simp only [go_sem,Qc,Qb,zb1,zb2,forall_eq]; done)))
   all_goals first | (simp; done) | skip
   refine Ok.loopN [88,87,86,85,84,83,82,81,80,79,78,77,76,75,74,73,72,71,70,69,68,67,66,65,64,63,62,61,60,59,58,57,56,55,54,53,52,51,50,49,48,47,46,45,44,43,42,41,40,39,38,37,36,35,34,33,32,31,30,29,28,27,26,25,24,23,22,21,20,19,18,17,16,15,14,13,12,11,10,9,8,7,6,5,1] (fun j (_ : List PSt × List Int) => [(7,.d (.int .i64 (1 + (j : Nat)))),(5,.sl 17),(6,.sl 18)]) (fun _ (s : List PSt × List Int) => [(17,.arr 47 6 (s.1.map D.pst)),(18,.arr 3 1 (s.2.map (.int .i64)))]) a
    (fun j s => s.1=bP a j∧s.2=prP a j) ([],[]) ⟨rfl,rfl⟩ (by refine Wk.auto ?_ ?_<;>simp [extraK,lk,killL,St.kill,wipeO,wipeS,AV.has,AV.hasL,AO.wipe,List.map_set,updSt,insL,dropS,ins,List.map_nil]) ?_
   rintro R j ⟨qs,pr⟩ hN hE hj ⟨hq,hpr⟩
   simp only at hq hpr
   have hql : qs.length<=100:=by rw [hq]; exact lenP_all a (by omega) j (by omega) hj
   have hpl : pr.length=j:=by rw [hpr,prP_len]
   dsimp only
   by_cases hlt : j < a
   . have c3:=l17Hole_ok (n:=a) (j:=j + 1) qs (pairF_of hn (by omega) (chkP_all a (by omega) (j + 1) (by omega) (by omega) (by omega))) (by rw [hq]; exact holeF_bP hn hlt) (by omega)
     have hb1 : bP a (j + 1)=hM ((a : Int) * (a + 1)) (cnfS a) a ((j + 1 : Nat) : Int) qs (a - 1):=by rw [hq]; rfl
     have hp1 : prP a (j + 1)=pr++[((bP a (j + 1)).length : Int) - 1]:=by rw [prP,← hpr]
     rw [← hb1,show ((j + 1 : Nat) : Int)=1 + j by omega] at c3
     have hbl:=lenP_all a (by omega) (j + 1) (by omega) (by omega)
     clear hb1
     generalize hV : bP a (j + 1)=V at *
     simp (disch:=first | omega | decide +kernel) only [go_sem,Qa,Qb,Qc,Qd,Qe,↓reduceIte,reduceCtorEq,Qf,Qg,Qh]
     (repeat' (first | ((first | (refine gsel_split (fun q' => ?_) (fun q' => ?_)<;>(have h':=q')<;>(try simp only [za1,za2,Ba,Bb,za3,ne_eq,za4,za5,za6,Ia,Ib,Ic,Ie,Da,Bc,Bd,Be,za7,za8] at h')<;>try (exfalso; omega)) | (have q':=trivial; first | refine hE _ _ ret_ne ?_ | refine hE _ _ exit_ne ?_))<;>(try simp (disch:=first | omega | decide +kernel) only [q',go_sem,Qa,Qb,Qc,Qd,Qe,↓reduceIte,reduceCtorEq,Qf,Qg,Qh])<;>clear q') | refine hN _ ?_ ?_ Wk.kk | with_reducible refine And.intro ?_ ?_ | with_reducible omega | exact ok_ints | exact cells_ints | exact no_mem | with_reducible exact plain_ints | (refine le_maxLen ?_; omega) | (refine za9 ⟨?_,?_⟩) | (simp only [go_sem,Qc,Qb,zb1,zb2,forall_eq]; done)))
     refine callX_mut [17] [17] [17] c3 ⟨.inl rfl,.inl rfl,.inl rfl,trivial⟩ ⟨rfl,trivial⟩ rfl (by simp [dstB]) ?_
     simp (disch:=first | omega | decide +kernel) only [go_sem,Qa,Qb,Qc,Qd,Qe,↓reduceIte,reduceCtorEq,Qf,Qg,Qh]
     (repeat' (first | ((first | (refine gsel_split (fun q' => ?_) (fun q' => ?_)<;>(have h':=q')<;>(try simp only [za1,za2,Ba,Bb,za3,ne_eq,za4,za5,za6,Ia,Ib,Ic,Ie,Da,Bc,Bd,Be,za7,za8] at h')<;>try (exfalso; omega)) | (have q':=trivial; first | refine hE _ _ ret_ne ?_ | refine hE _ _ exit_ne ?_))<;>(try simp (disch:=first | omega | decide +kernel) only [q',go_sem,Qa,Qb,Qc,Qd,Qe,↓reduceIte,reduceCtorEq,Qf,Qg,Qh])<;>clear q') | refine hN _ ?_ ?_ Wk.kk | with_reducible refine And.intro ?_ ?_ | with_reducible omega | exact ok_ints | exact cells_ints | exact no_mem | with_reducible exact plain_ints | (refine le_maxLen ?_; omega) | (refine za9 ⟨?_,?_⟩) | (simp only [go_sem,Qc,Qb,zb1,zb2,forall_eq]; done)))
     refine hN (V,pr++[(V.length : Int) - 1]) _ hlt ⟨rfl,hp1.symm⟩ (by refine Wk.auto ?_ ?_<;>simp [extraK,lk,killL,St.kill,wipeO,wipeS,AV.has,AV.hasL,AO.wipe,List.map_set,updSt,insL,dropS,ins,List.map_append,List.map_cons,List.map_nil,Int.add_assoc])
   . obtain rfl : j=a:=by omega
     simp (disch:=first | omega | decide +kernel) only [go_sem,Qa,Qb,Qc,Qd,Qe,↓reduceIte,reduceCtorEq,Qf,Qg,Qh]
     (repeat' (first | ((first | (refine gsel_split (fun q' => ?_) (fun q' => ?_)<;>(have h':=q')<;>(try simp only [za1,za2,Ba,Bb,za3,ne_eq,za4,za5,za6,Ia,Ib,Ic,Ie,Da,Bc,Bd,Be,za7,za8] at h')<;>try (exfalso; omega)) | (have q':=trivial; first | refine hE _ _ ret_ne ?_ | refine hE _ _ exit_ne ?_))<;>(try simp (disch:=first | omega | decide +kernel) only [q',go_sem,Qa,Qb,Qc,Qd,Qe,↓reduceIte,reduceCtorEq,Qf,Qg,Qh])<;>clear q') | refine hN _ ?_ ?_ Wk.kk | with_reducible refine And.intro ?_ ?_ | with_reducible omega | exact ok_ints | exact cells_ints | exact no_mem | with_reducible exact plain_ints | (refine le_maxLen ?_; omega) | (refine za9 ⟨?_,?_⟩) | (simp only [go_sem,Qc,Qb,zb1,zb2,forall_eq]; done)))
     clear hN hE
     refine Ok.loopNO [88,87,86,85,84,83,82,81,80,79,78,77,76,75,74,73,72,71,70,69,68,67,66,65,64,63,62,61,60,59,58,57,56,55,54,53,52,51,50,49,48,47,46,45,44,43,42,41,40,39,38,37,36,35,34,33,32,31,30,29,28,27,26,25,24,23,22,21,20,19,18,17,16,15,14,13,12,11,10,9,8,7,6,5,1] (fun i (_ : List PSt × List Int) => [(8,.d (.int .i64 (i : Nat))),(5,.sl 17),(6,.sl 18)]) (fun _ (s : List PSt × List Int) => [(17,.arr 47 6 (s.1.map D.pst)),(18,.arr 3 1 (s.2.map (.int .i64)))]) (j + 1)
      (fun i s => s.1=bA j i∧s.2=prA j i) (qs,pr) ⟨hq,hpr⟩ (by refine Wk.auto ?_ ?_<;>simp [extraK,lk,killL,St.kill,wipeO,wipeS,AV.has,AV.hasL,AO.wipe,List.map_set,updSt,insL,dropS,ins,]) ?_
     clear hq hpr hql hpl
     rintro R1 i ⟨qs,pr⟩ hN hE hi ⟨hq,hpr⟩
     simp only at hq hpr
     have hql : qs.length<=200:=by
      have:=bA_len j i
      rw [← hq] at this; omega
     have hpl : pr.length<=20:=by rw [hpr,prA_len]; omega
     dsimp only
     by_cases hlt : i < j + 1
     . obtain ⟨h2,h3⟩:=litsA_ok (i:=i) hn hlt
       have hsm:=getD_small (cnf_small j (by omega)) i
       have c3:=l16OfClause_ok ((j : Int) * (j + 1)) ((cnfS j).getD i []) (by omega) h2
       have c4:=l17Add_ok qs 1 (i : Nat) 0 0 (planI ((j : Int) * (j + 1)) ((cnfS j).getD i [])) (by omega)
       have hb1 : bA j (i + 1)=qs++[⟨planI ((j : Int) * (j + 1)) ((cnfS j).getD i []),1,(i : Nat),0,0⟩]:=by rw [hq]; rfl
       have hp1 : prA j (i + 1)=pr++[(qs.length : Int)]:=by rw [prA,← hpr,hq]
       have hel : el ((cnfS j).map D.ints) i=D.ints ((cnfS j).getD i []):=el_map (f:=D.ints) [] h3
       generalize planI ((j : Int) * (j + 1)) ((cnfS j).getD i [])=z at *
       refine Ok.seq (Ok.go ?_)
       simp (disch:=first | omega | decide +kernel) only [go_sem,Qa,Qb,Qc,Qd,Qe,↓reduceIte,reduceCtorEq,Qf,Qg,Qh]
       (repeat' (first | ((first | (refine gsel_split (fun q' => ?_) (fun q' => ?_)<;>(have h':=q')<;>(try simp only [za1,za2,Ba,Bb,za3,ne_eq,za4,za5,za6,Ia,Ib,Ic,Ie,Da,Bc,Bd,Be,za7,za8] at h')<;>try (exfalso; omega)) | (have q':=trivial; first | refine hE _ _ ret_ne ?_ | refine hE _ _ exit_ne ?_))<;>(try simp (disch:=first | omega | decide +kernel) only [q',go_sem,Qa,Qb,Qc,Qd,Qe,↓reduceIte,reduceCtorEq,Qf,Qg,Qh])<;>clear q') | refine hN _ ?_ ?_ Wk.kk | with_reducible refine And.intro ?_ ?_ | with_reducible omega | exact ok_ints | exact cells_ints | exact no_mem | with_reducible exact plain_ints | (refine le_maxLen ?_; omega) | (refine za9 ⟨?_,?_⟩) | (simp only [go_sem,Qc,Qb,zb1,zb2,forall_eq]; done)))
       refine Ok.seq (Ok.block (Ok.seq (Ok.go ?_)))
       simp (disch:=first | omega | decide +kernel) only [go_sem,Qa,Qb,Qc,Qd,Qe,↓reduceIte,reduceCtorEq,Qf,Qg,Qh]
       (repeat' (first | ((first | (refine gsel_split (fun q' => ?_) (fun q' => ?_)<;>(have h':=q')<;>(try simp only [za1,za2,Ba,Bb,za3,ne_eq,za4,za5,za6,Ia,Ib,Ic,Ie,Da,Bc,Bd,Be,za7,za8] at h')<;>try (exfalso; omega)) | (have q':=trivial; first | refine hE _ _ ret_ne ?_ | refine hE _ _ exit_ne ?_))<;>(try simp (disch:=first | omega | decide +kernel) only [q',go_sem,Qa,Qb,Qc,Qd,Qe,↓reduceIte,reduceCtorEq,Qf,Qg,Qh])<;>clear q') | refine hN _ ?_ ?_ Wk.kk | with_reducible refine And.intro ?_ ?_ | with_reducible omega | exact ok_ints | exact cells_ints | exact no_mem | with_reducible exact plain_ints | (refine le_maxLen ?_; omega) | (refine za9 ⟨?_,?_⟩) | (simp only [go_sem,Qc,Qb,zb1,zb2,forall_eq]; done)))
       refine Ok.reg7 [true,true,true,true,true,true,true,true,true,true,false,false] (by decide +kernel) ?_
       simp (disch:=first | omega | decide +kernel) only [hel,D.ints,go_sem,Qa,Qb,Qc,Qd,Qe,↓reduceIte,reduceCtorEq,Qf,Qg,Qh]
       (repeat' (first | ((first | (refine gsel_split (fun q' => ?_) (fun q' => ?_)<;>(have h':=q')<;>(try simp only [za1,za2,Ba,Bb,za3,ne_eq,za4,za5,za6,Ia,Ib,Ic,Ie,Da,Bc,Bd,Be,za7,za8] at h')<;>try (exfalso; omega)) | (have q':=trivial; first | refine callX_shared (c3) rfl (by decide) ?_ | refine callY_shared (c3) rfl ?_ | refine hE _ _ ret_ne ?_ | refine hE _ _ exit_ne ?_))<;>(try simp (disch:=first | omega | decide +kernel) only [q',hel,D.ints,go_sem,Qa,Qb,Qc,Qd,Qe,↓reduceIte,reduceCtorEq,Qf,Qg,Qh])<;>clear q') | refine hN _ ?_ ?_ Wk.kk | with_reducible refine And.intro ?_ ?_ | with_reducible omega | exact ok_ints | exact cells_ints | exact no_mem | with_reducible exact plain_ints | (refine le_maxLen ?_; omega) | (refine za9 ⟨?_,?_⟩) | (simp only [go_sem,Qc,Qb,zb1,zb2,forall_eq]; done)))
       all_goals first | omega | skip
       refine callX_mut [17] [17] [17] c4 ⟨.inl rfl,.inl rfl,.inl rfl,.inl rfl,.inl rfl,.inl rfl,trivial⟩ ⟨rfl,trivial⟩ rfl (by simp [dstB]) ?_
       simp (disch:=first | omega | decide +kernel) only [go_sem,Qa,Qb,Qc,Qd,Qe,↓reduceIte,reduceCtorEq,Qf,Qg,Qh]
       refine Ok.go ?_
       simp (disch:=first | omega | decide +kernel) only [go_sem,Qa,Qb,Qc,Qd,Qe,↓reduceIte,reduceCtorEq,Qf,Qg,Qh]
       refine hN (qs++[⟨z,1,(i : Nat),0,0⟩],pr++[(qs.length : Int)]) _ hlt ⟨hb1.symm,hp1.symm⟩ (by refine Wk.auto ?_ ?_<;>simp [extraK,lk,killL,St.kill,wipeO,wipeS,AV.has,AV.hasL,AO.wipe,List.map_set,updSt,insL,dropS,ins,List.map_append,List.map_cons,List.map_nil,Int.add_assoc])
     . obtain rfl : i=j + 1:=by omega
       have hpa : pr=allP j:=hpr
       have hel : ∀ t,t < 2 * j + 1->el (pr.map (D.int .i64)) t=.int .i64 (pr.getD t 0):=fun t ht => el_ints (by rw [hpa,la]; exact ht)
       rw [← hpa] at la
       refine Ok.go ?_
       simp (disch:=first | omega | decide +kernel) only [go_sem,Qa,Qb,Qc,Qd,Qe,↓reduceIte,reduceCtorEq,Qf,Qg,Qh]
       (repeat' (first | ((first | (refine gsel_split (fun q' => ?_) (fun q' => ?_)<;>(have h':=q')<;>(try simp only [za1,za2,Ba,Bb,za3,ne_eq,za4,za5,za6,Ia,Ib,Ic,Ie,Da,Bc,Bd,Be,za7,za8] at h')<;>try (exfalso; omega)) | (have q':=trivial; first | refine hE _ _ ret_ne ?_ | refine hE _ _ exit_ne ?_))<;>(try simp (disch:=first | omega | decide +kernel) only [q',go_sem,Qa,Qb,Qc,Qd,Qe,↓reduceIte,reduceCtorEq,Qf,Qg,Qh])<;>clear q') | refine hN _ ?_ ?_ Wk.kk | with_reducible refine And.intro ?_ ?_ | with_reducible omega | exact ok_ints | exact cells_ints | exact no_mem | with_reducible exact plain_ints | (refine le_maxLen ?_; omega) | (refine za9 ⟨?_,?_⟩) | (simp only [go_sem,Qc,Qb,zb1,zb2,forall_eq]; done)))
       all_goals first | omega | skip
       clear hN hE
       have hs0 : qs=(bS j 0).1∧pr.getD 0 0=(bS j 0).2:=⟨hq,by rw [hpa]; rfl⟩
       clear hq hpr hql hpl
       rw [hpa] at hel
       refine Ok.loopNO [88,87,86,85,84,83,82,81,80,79,78,77,76,75,74,73,72,71,70,69,68,67,66,65,64,63,62,61,60,59,58,57,56,55,54,53,52,51,50,49,48,47,46,45,44,43,42,41,40,39,38,37,36,35,34,33,32,31,30,29,28,27,26,25,24,23,22,21,20,19,18,17,16,15,14,13,12,11,10,9,8,7,5,1] (fun k (_ : List PSt) => [(10,.d (.int .i64 (1 + (k : Nat)))),(9,.d (.int .i64 (bS j k).2)),(5,.sl 17)]) (fun _ (qs : List PSt) => [(17,.arr 47 6 (qs.map D.pst))]) (2 * j)
        (fun k qs => qs=(bS j k).1) qs hs0.1 (by rw [hs0.2]; exact (by refine Wk.auto ?_ ?_<;>simp [extraK,lk,killL,St.kill,wipeO,wipeS,AV.has,AV.hasL,AO.wipe,List.map_set,updSt,insL,dropS,ins,])) ?_
       clear hs0
       rintro R2 k qs hN hE hk hq
       have hql : qs.length<=200:=by
        have:=bS_len j k
        rw [← hq] at this; omega
       by_cases hlt2 : k < 2 * j
       . have h:=List.all_eq_true.1 (chkS_all j (by omega)) k (List.mem_range.2 hlt2)
         simp only [Bc,inB,decide_eq_true_eq] at h
         obtain ⟨⟨a1,a2⟩,⟨b1,b2⟩,s1,s2⟩:=h
         obtain ⟨s3,s4⟩:=sizB_ok s1
         obtain ⟨s5,s6⟩:=sizB_ok s2
         have hu : ((j : Int) * (j + 1))<=12:=by rcases (by omega : j=1∨j=2∨j=3) with rfl | rfl | rfl<;>decide
         have hb1 : (bS j (k + 1)).1=(bS j k).1++[⟨addP ((bS j k).1.getD (bS j k).2.toNat PSt.z).q ((bS j k).1.getD ((allP j).getD (k + 1) 0).toNat PSt.z).q,4,(bS j k).2,(allP j).getD (k + 1) 0,0⟩]:=rfl
         have hb2 : (bS j (k + 1)).2=(qs.length : Nat):=by rw [hq]; rfl
         rw [← hq] at a2 b2 s3 s4 s5 s6 hb1
         have he : pr.getD (k + 1) 0=(allP j).getD (k + 1) 0:=by rw [hpa]
         have e1 : (1 + (k : Int)).toNat=k + 1:=by omega
         generalize (bS j k).2=x at *
         generalize (allP j).getD (k + 1) 0=y at *
         have e2 : el (qs.map D.pst) x.toNat=D.pst (qs.getD x.toNat PSt.z):=el_pst (by omega)
         have e3 : el (qs.map D.pst) y.toNat=D.pst (qs.getD y.toNat PSt.z):=el_pst (by omega)
         have c5:=l16Add_ok (q:=(qs.getD x.toNat PSt.z).q) (r:=(qs.getD y.toNat PSt.z).q) (by rw [s3]; omega) (by rw [s3,s5]; exact Nat.le_refl _) s4 s6 (by omega) (by omega)
         have c6:=l17Add_ok qs 4 x y 0 (addP (qs.getD x.toNat PSt.z).q (qs.getD y.toNat PSt.z).q) (by omega)
         generalize addP (qs.getD x.toNat PSt.z).q (qs.getD y.toNat PSt.z).q=z at *
         refine Ok.seq (Ok.go ?_)
         simp (disch:=first | omega | decide +kernel) only [go_sem,Qa,Qb,Qc,Qd,Qe,↓reduceIte,reduceCtorEq,Qf,Qg,Qh]
         (repeat' (first | ((first | (refine gsel_split (fun q' => ?_) (fun q' => ?_)<;>(have h':=q')<;>(try simp only [za1,za2,Ba,Bb,za3,ne_eq,za4,za5,za6,Ia,Ib,Ic,Ie,Da,Bc,Bd,Be,za7,za8] at h')<;>try (exfalso; omega)) | (have q':=trivial; first | refine hE _ _ ret_ne ?_ | refine hE _ _ exit_ne ?_))<;>(try simp (disch:=first | omega | decide +kernel) only [q',go_sem,Qa,Qb,Qc,Qd,Qe,↓reduceIte,reduceCtorEq,Qf,Qg,Qh])<;>clear q') | refine hN _ ?_ ?_ Wk.kk | with_reducible refine And.intro ?_ ?_ | with_reducible omega | exact ok_ints | exact cells_ints | exact no_mem | with_reducible exact plain_ints | (refine le_maxLen ?_; omega) | (refine za9 ⟨?_,?_⟩) | (simp only [go_sem,Qc,Qb,zb1,zb2,forall_eq]; done)))
         refine Ok.seq (Ok.block (Ok.seq ?_))
         refine Ok.reg7 [true,true,true,true,true,true,true,true,true,true,true,true,true,true,true,true,true,true,true,true,false,false] (by decide +kernel) ?_
         simp (disch:=first | omega | decide +kernel) only [he,e1,e2,e3,D.ints,go_sem,Qa,Qb,Qc,Qd,Qe,↓reduceIte,reduceCtorEq,Qf,Qg,Qh]
         (repeat' (first | ((first | (refine gsel_split (fun q' => ?_) (fun q' => ?_)<;>(have h':=q')<;>(try simp only [za1,za2,Ba,Bb,za3,ne_eq,za4,za5,za6,Ia,Ib,Ic,Ie,Da,Bc,Bd,Be,za7,za8] at h')<;>try (exfalso; omega)) | (have q':=trivial; first | refine callX_shared (c5) rfl (by decide) ?_ | refine callY_shared (c5) rfl ?_ | refine hE _ _ ret_ne ?_ | refine hE _ _ exit_ne ?_))<;>(try simp (disch:=first | omega | decide +kernel) only [q',he,e1,e2,e3,D.ints,go_sem,Qa,Qb,Qc,Qd,Qe,↓reduceIte,reduceCtorEq,Qf,Qg,Qh])<;>clear q') | refine hN _ ?_ ?_ Wk.kk | with_reducible refine And.intro ?_ ?_ | with_reducible omega | exact ok_ints | exact cells_ints | exact no_mem | with_reducible exact plain_ints | (refine le_maxLen ?_; omega) | (refine za9 ⟨?_,?_⟩) | (simp only [go_sem,Qc,Qb,zb1,zb2,forall_eq]; done)))
         all_goals first | omega | skip
         refine callX_mut [17] [17] [17] c6 ⟨.inl rfl,.inl rfl,.inl rfl,.inl rfl,.inl rfl,.inl rfl,trivial⟩ ⟨rfl,trivial⟩ rfl (by simp [dstB]) ?_
         simp (disch:=first | omega | decide +kernel) only [go_sem,Qa,Qb,Qc,Qd,Qe,↓reduceIte,reduceCtorEq,Qf,Qg,Qh]
         refine Ok.go ?_
         simp (disch:=first | omega | decide +kernel) only [go_sem,Qa,Qb,Qc,Qd,Qe,↓reduceIte,reduceCtorEq,Qf,Qg,Qh]
         (repeat' (first | ((first | (refine gsel_split (fun q' => ?_) (fun q' => ?_)<;>(have h':=q')<;>(try simp only [za1,za2,Ba,Bb,za3,ne_eq,za4,za5,za6,Ia,Ib,Ic,Ie,Da,Bc,Bd,Be,za7,za8] at h')<;>try (exfalso; omega)) | (have q':=trivial; first | refine hE _ _ ret_ne ?_ | refine hE _ _ exit_ne ?_))<;>(try simp (disch:=first | omega | decide +kernel) only [q',go_sem,Qa,Qb,Qc,Qd,Qe,↓reduceIte,reduceCtorEq,Qf,Qg,Qh])<;>clear q') | refine hN _ ?_ ?_ Wk.kk | with_reducible refine And.intro ?_ ?_ | with_reducible omega | exact ok_ints | exact cells_ints | exact no_mem | with_reducible exact plain_ints | (refine le_maxLen ?_; omega) | (refine za9 ⟨?_,?_⟩) | (simp only [go_sem,Qc,Qb,zb1,zb2,forall_eq]; done)))
         refine Ok.go ?_
         simp (disch:=first | omega | decide +kernel) only [go_sem,Qa,Qb,Qc,Qd,Qe,↓reduceIte,reduceCtorEq,Qf,Qg,Qh]
         refine hN (qs++[⟨z,4,x,y,0⟩]) _ hlt2 hb1.symm (by rw [hb2]; exact (by refine Wk.auto ?_ ?_<;>simp [extraK,lk,killL,St.kill,wipeO,wipeS,AV.has,AV.hasL,AO.wipe,List.map_set,updSt,insL,dropS,ins,List.map_append,List.map_cons,List.map_nil,Int.add_assoc]))
       . obtain rfl : k=2 * j:=by omega
         refine Ok.go ?_
         simp (disch:=first | omega | decide +kernel) only [go_sem,Qa,Qb,Qc,Qd,Qe,↓reduceIte,reduceCtorEq,Qf,Qg,Qh]
         (repeat' (first | ((first | (refine gsel_split (fun q' => ?_) (fun q' => ?_)<;>(have h':=q')<;>(try simp only [za1,za2,Ba,Bb,za3,ne_eq,za4,za5,za6,Ia,Ib,Ic,Ie,Da,Bc,Bd,Be,za7,za8] at h')<;>try (exfalso; omega)) | (have q':=trivial; first | refine hE _ _ ret_ne ?_ | refine hE _ _ exit_ne ?_))<;>(try simp (disch:=first | omega | decide +kernel) only [q',go_sem,Qa,Qb,Qc,Qd,Qe,↓reduceIte,reduceCtorEq,Qf,Qg,Qh])<;>clear q') | refine hN _ ?_ ?_ Wk.kk | with_reducible refine And.intro ?_ ?_ | with_reducible omega | exact ok_ints | exact cells_ints | exact no_mem | with_reducible exact plain_ints | (refine le_maxLen ?_; omega) | (refine za9 ⟨?_,?_⟩) | (simp only [go_sem,Qc,Qb,zb1,zb2,forall_eq]; done)))
         all_goals first | omega | skip
         rw [show ppV j=qs from hq.symm]
         exact ret_fd [17] rfl rfl
end Abs.Y
