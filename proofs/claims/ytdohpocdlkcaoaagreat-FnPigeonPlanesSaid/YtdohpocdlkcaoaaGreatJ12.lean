/- What functions of this program compute, over plain data. No condition. -/
import Derived.Test.YtdohpocdlkcaoaaGreatJ11
set_option linter.all false
namespace Abs.Y
open Go Go.Proofs Abs
open Nat renaming reduceEqDiff -> Qa, reduceLT -> Qb, reduceAdd -> Qc, reduceMul -> Qd, reduceSub -> Qe, reduceLeDiff -> Qf, reduceSubDiff -> Qg, reduceBEq -> Qh
open Bool renaming not_eq_true' -> Ba, not_eq_false' -> Bb, and_eq_true -> Bc, or_eq_true -> Bd, or_eq_false_iff -> Be
open Int renaming ofNat_lt -> Ia, ofNat_le -> Ib, not_lt -> Ic, not_le -> Ie
open Decidable renaming not_not -> Da
set_option maxRecDepth 100000

def okPP (n : Int) : Bool:=decide (1<=n) && decide (n<=3)
def ppI (n : Int) : List PSt:=if okPP n then ppV n.toNat else []
theorem sizB_ok {u : Int} {s : PSt} (h : sizB u s=true) : s.q.co.length=u.toNat∧Bd 1000000 s.q:=by
 simp only [sizB,Bc,decide_eq_true_eq] at h
 exact ⟨h.1,bdB_ok h.2⟩
theorem holeF_bP {n j : Nat} (hn : 1<=n∧n<=3) (hj : j < n) : HoleF ((n : Int) * (n + 1)) (cnfS n) n ((j : Int) + 1) (bP n j) :=
 holeF_of (j:=j + 1) hn (chkP_all n (by omega) (j + 1) (by omega) (by omega) (by omega)) (chkB_all n (by omega) j (by omega) hj)
theorem litsA_ok {n i : Nat} (hn : 1<=n∧n<=3) (hi : i < n + 1) : Lits ((n : Int) * (n + 1)) ((cnfS n).getD i [])∧i < (cnfS n).length:=by
 obtain ⟨h1,h2⟩:=litsA n (by omega) i (by omega) hi
 have hu : 0<=(n : Int) * (n + 1)∧(n : Int) * (n + 1)<=12:=by
  rcases (by omega : n=1∨n=2∨n=3) with rfl | rfl | rfl<;>decide
 refine ⟨⟨hu.1,hu.2,fun x hx => ?_⟩,h2⟩
 have:=List.all_eq_true.1 h1 x hx
 simp only [Bc,decide_eq_true_eq] at this
 exact this
theorem addS_ok {n k : Nat} (hn : 1<=n∧n<=3) (hk : k < 2 * n) (qs : List Tp) (hq : qs.map (·.2)=(bS n k).1) (hl : qs.length<=1000) :
 CtrR Tryz.prog 41 [.p 0 0,.d (.int .i64 (bS n k).2),.d (.int .i64 ((allP n).getD (k + 1) 0))] [(0,plB ((n : Int) * (n + 1)) 1),(1,plR qs)] [0] true
  (PlP ((n : Int) * (n + 1)) qs ⟨addP ((bS n k).1.getD (bS n k).2.toNat PSt.z).q ((bS n k).1.getD ((allP n).getD (k + 1) 0).toNat PSt.z).q,4,(bS n k).2,(allP n).getD (k + 1) 0,0⟩):=by
 have h:=List.all_eq_true.1 (chkS_all n (by omega)) k (List.mem_range.2 hk)
 simp only [Bc,inB,decide_eq_true_eq] at h
 obtain ⟨⟨a1,a2⟩,⟨b1,b2⟩,s1,s2⟩:=h
 obtain ⟨s3,s4⟩:=sizB_ok s1
 obtain ⟨s5,s6⟩:=sizB_ok s2
 have hu : ((n : Int) * (n + 1))<=12:=by rcases (by omega : n=1∨n=2∨n=3) with rfl | rfl | rfl<;>decide
 have hlen : qs.length=(bS n k).1.length:=by rw [← hq,List.length_map]
 generalize (bS n k).2=x at *
 generalize (allP n).getD (k + 1) 0=y at *
 obtain ⟨a,rfl⟩ : ∃ a : Nat,x=a:=⟨x.toNat,by omega⟩
 obtain ⟨b,rfl⟩ : ∃ b : Nat,y=b:=⟨y.toNat,by omega⟩
 have hg : ∀ t : Nat,t < qs.length->(qs.getD t Tp.z).2=(bS n k).1.getD t PSt.z:=fun t ht => by
  rw [← hq]
  simp [List.getD_eq_getElem?_getD,List.getElem?_map,ht]
 rw [Int.toNat_natCast] at *
 exact add_ok _ qs a b (by omega) (by omega) (by omega) (by rw [hg a (by omega)]) (by rw [hg b (by omega)]; rfl) (by rw [s3]; omega) (by rw [s3]; exact Nat.le_of_eq s5.symm) s4 s6
set_option maxHeartbeats 8000000 in
theorem implPP_ok (n : Int) : Ctr Tryz.prog 10 [.int .i64 n] false (.tup [.sl 0,.d (.bool (okPP n))]) [(0,.dp (some (47,6)) ((ppI n).map D.pst) none)]:=by
 unfold ppI
 cases h1 : okPP n with
 | false =>
   have c1:=pigeonCnf_no n h1
   rw [if_neg (by decide)]
   refine Ctr.ofK (n:=68) (rs:=[.tmp 2,.tmp 3]) Tryz.func10 rfl rfl Tryz.ntmps10 rfl rfl (by kernel_rfl) Tryz.checked.mixed ?_
   refine Ok.endsW ?_
   refine Ok.go ?_
   simp (disch:=first | omega | decide +kernel) only [List.map_nil,go_sem,Qa,Qb,Qc,Qd,Qe,↓reduceIte,reduceCtorEq,Qf,Qg,Qh]
   (repeat' (first | ((first | (refine gsel_split (fun q' => ?_) (fun q' => ?_)<;>(have h':=q')<;>(try simp only [za1,za2,Ba,Bb,za3,ne_eq,za4,za5,za6,Ia,Ib,Ic,Ie,Da,Bc,Bd,Be,za7,za8] at h')) | (have q':=trivial; first | refine callX_shared (c1) rfl (by decide) ?_ | refine callY_shared (c1) rfl ?_ | refine hE _ _ ret_ne ?_ | refine hE _ _ exit_ne ?_))<;>(try simp (disch:=first | omega | decide +kernel) only [q',List.map_nil,go_sem,Qa,Qb,Qc,Qd,Qe,↓reduceIte,reduceCtorEq,Qf,Qg,Qh])<;>clear q') | refine hN _ ?_ ?_ Wk.kk | with_reducible refine And.intro ?_ ?_ | with_reducible omega | exact ok_ints | exact cells_ints | exact no_mem | with_reducible exact plain_ints | (refine le_maxLen ?_; omega) | (refine za9 ⟨?_,?_⟩) | (simp only [go_sem,Qc,Qb,zb1,zb2,forall_eq]; done)))
   all_goals exact ⟨_,Wk.deep 2 rfl (by simp [flat]),ret_dpd 2 rfl rfl rfl rfl⟩
 | true =>
   rw [if_pos rfl]
   simp only [okPP,Bc,decide_eq_true_eq] at h1
   obtain ⟨a,rfl⟩ : ∃ a : Nat,n=a:=⟨n.toNat,by omega⟩
   have hn : 1<=a∧a<=3:=by omega
   have c1:=pigeonCnfS_ok a hn
   rw [Int.toNat_natCast]
   obtain ⟨la,⟨lb,lc⟩,_⟩:=len_all a (by omega)
   refine Ctr.ofK (n:=68) (rs:=[.tmp 2,.tmp 3]) Tryz.func10 rfl rfl Tryz.ntmps10 rfl rfl (by kernel_rfl) Tryz.checked.mixed ?_
   refine Ok.endsW ?_
   refine Ok.seq (Ok.go ?_)
   simp (disch:=first | omega | decide +kernel) only [List.map_nil,go_sem,Qa,Qb,Qc,Qd,Qe,↓reduceIte,reduceCtorEq,Qf,Qg,Qh]
   refine Ok.seq (Ok.go ?_)
   simp (disch:=first | omega | decide +kernel) only [List.map_nil,go_sem,Qa,Qb,Qc,Qd,Qe,↓reduceIte,reduceCtorEq,Qf,Qg,Qh]
   (repeat' (first | ((first | (refine gsel_split (fun q' => ?_) (fun q' => ?_)<;>(have h':=q')<;>(try simp only [za1,za2,Ba,Bb,za3,ne_eq,za4,za5,za6,Ia,Ib,Ic,Ie,Da,Bc,Bd,Be,za7,za8] at h')) | (have q':=trivial; first | refine callX_shared (c1) rfl (by decide) ?_ | refine callY_shared (c1) rfl ?_ | refine hE _ _ ret_ne ?_ | refine hE _ _ exit_ne ?_))<;>(try simp (disch:=first | omega | decide +kernel) only [q',go_sem,Qa,Qb,Qc,Qd,Qe,↓reduceIte,reduceCtorEq,Qf,Qg,Qh])<;>clear q') | refine hN _ ?_ ?_ Wk.kk | with_reducible refine And.intro ?_ ?_ | with_reducible omega | exact ok_ints | exact cells_ints | exact no_mem | with_reducible exact plain_ints | (refine le_maxLen ?_; omega) | (refine za9 ⟨?_,?_⟩) | (simp only [go_sem,Qc,Qb,zb1,zb2,forall_eq]; done)))
   refine Ok.seq (Ok.go ?_)
   simp (disch:=first | omega | decide +kernel) only [List.map_nil,go_sem,Qa,Qb,Qc,Qd,Qe,↓reduceIte,reduceCtorEq,Qf,Qg,Qh]
   (repeat' (first | ((first | (refine gsel_split (fun q' => ?_) (fun q' => ?_)<;>(have h':=q')<;>(try simp only [za1,za2,Ba,Bb,za3,ne_eq,za4,za5,za6,Ia,Ib,Ic,Ie,Da,Bc,Bd,Be,za7,za8] at h')) | (have q':=trivial; first | refine hE _ _ ret_ne ?_ | refine hE _ _ exit_ne ?_))<;>(try simp (disch:=first | omega | decide +kernel) only [q',go_sem,Qa,Qb,Qc,Qd,Qe,↓reduceIte,reduceCtorEq,Qf,Qg,Qh])<;>clear q') | refine hN _ ?_ ?_ Wk.kk | with_reducible refine And.intro ?_ ?_ | with_reducible omega | exact ok_ints | exact cells_ints | exact no_mem | with_reducible exact plain_ints | (refine le_maxLen ?_; omega) | (refine za9 ⟨?_,?_⟩) | (simp only [go_sem,Qc,Qb,zb1,zb2,forall_eq]; done)))
   refine Ok.seq (Ok.go ?_)
   simp (disch:=first | omega | decide +kernel) only [List.map_nil,go_sem,Qa,Qb,Qc,Qd,Qe,↓reduceIte,reduceCtorEq,Qf,Qg,Qh]
   (repeat' (first | ((first | (refine gsel_split (fun q' => ?_) (fun q' => ?_)<;>(have h':=q')<;>(try simp only [za1,za2,Ba,Bb,za3,ne_eq,za4,za5,za6,Ia,Ib,Ic,Ie,Da,Bc,Bd,Be,za7,za8] at h')) | (have q':=trivial; first | refine hE _ _ ret_ne ?_ | refine hE _ _ exit_ne ?_))<;>(try simp (disch:=first | omega | decide +kernel) only [q',go_sem,Qa,Qb,Qc,Qd,Qe,↓reduceIte,reduceCtorEq,Qf,Qg,Qh])<;>clear q') | refine hN _ ?_ ?_ Wk.kk | with_reducible refine And.intro ?_ ?_ | with_reducible omega | exact ok_ints | exact cells_ints | exact no_mem | with_reducible exact plain_ints | (refine le_maxLen ?_; omega) | (refine za9 ⟨?_,?_⟩) | (simp only [go_sem,Qc,Qb,zb1,zb2,forall_eq]; done)))
   refine Ok.weak ((Wk.nilObj 800000003 23 1 rfl rfl (by simp) (by decide) (e:=47) (k:=6) (by decide)).trans ((Wk.res0 800000001).trans (show Wk _ _ ⟨[(6,.p 23 0),(5,.d (.bool true)),(4,.p 4 0),(3,.d (.bool false)),(0,.d (.int .i64 (a : Int)))],
    [(800000003,plR []),(800000001,.res []),(23,plB ((a : Int) * (a + 1)) 800000003),(4,.box 27 [.d (.int .i64 ((a : Int) * (a + 1))),.d (.slice ((cnfS a).map D.ints))])]⟩ from (by refine Wk.auto ?_ ?_<;>simp [extraK,lk,killL,St.kill,wipeO,wipeS,AV.has,AV.hasL,AO.wipe,List.map_set,updSt,insL,dropS,ins,setL])))) ?_
   refine Ok.go ?_
   simp (disch:=first | omega | decide +kernel) only [List.map_nil,go_sem,Qa,Qb,Qc,Qd,Qe,↓reduceIte,reduceCtorEq,Qf,Qg,Qh]
   refine Ok.loopN [67,66,65,64,63,62,61,60,59,58,57,56,55,54,53,52,51,50,49,48,47,46,45,44,43,42,41,40,39,38,37,36,35,34,33,32,31,30,29,28,27,26,25,24,23,22,21,20,19,18,17,16,15,14,13,12,11,10,9,8,7,2,1] (fun j (_ : List Tp × List Int) => [(8,.d (.int .i64 (1 + (j : Nat)))),(7,.sl 7)]) (fun _ (s : List Tp × List Int) => [(7,.arr 3 1 (s.2.map (.int .i64))),(800000003,plR s.1),(800000001,.res (s.1.map resT))]) a
    (fun j s => s.1.map (·.2)=bP a j∧s.2=prP a j) ([],[]) ⟨rfl,rfl⟩ (by refine Wk.auto ?_ ?_<;>simp [extraK,lk,killL,St.kill,wipeO,wipeS,AV.has,AV.hasL,AO.wipe,List.map_set,updSt,insL,dropS,ins,List.map_nil]) ?_
   rintro R j ⟨qs,pr⟩ hN hE hj ⟨hq,hpr⟩
   simp only at hq hpr
   have hql : qs.length<=100:=by
    have:=lenP_all a (by omega) j (by omega) hj
    rw [← hq,List.length_map] at this; exact this
   have hpl : pr.length=j:=by rw [hpr,prP_len]
   dsimp only
   by_cases hlt : j < a
   . have hF:=holeF_bP (j:=j) hn hlt
     rw [← hq] at hF
     have c3:=hole_ok qs (by omega) (by omega) (by omega) hF
     rw [hq,show ((a : Int) - 1).toNat=a - 1 by omega] at c3
     have hb1 : bP a (j + 1)=hM ((a : Int) * (a + 1)) (cnfS a) a ((j : Int) + 1) (bP a j) (a - 1):=rfl
     have hp1 : prP a (j + 1)=pr++[((bP a (j + 1)).length : Int) - 1]:=by rw [prP,← hpr]
     rw [← hb1,show (j : Int) + 1=1 + j by omega] at c3
     clear hF hb1
     generalize bP a (j + 1)=V at *
     simp (disch:=first | omega | decide +kernel) only [go_sem,Qa,Qb,Qc,Qd,Qe,↓reduceIte,reduceCtorEq,Qf,Qg,Qh]
     (repeat' (first | ((first | (refine gsel_split (fun q' => ?_) (fun q' => ?_)<;>(have h':=q')<;>(try simp only [za1,za2,Ba,Bb,za3,ne_eq,za4,za5,za6,Ia,Ib,Ic,Ie,Da,Bc,Bd,Be,za7,za8] at h')<;>try (exfalso; omega)) | (have q':=trivial; first | refine hE _ _ ret_ne ?_ | refine hE _ _ exit_ne ?_))<;>(try simp (disch:=first | omega | decide +kernel) only [q',go_sem,Qa,Qb,Qc,Qd,Qe,↓reduceIte,reduceCtorEq,Qf,Qg,Qh])<;>clear q') | refine hN _ ?_ ?_ Wk.kk | with_reducible refine And.intro ?_ ?_ | with_reducible omega | exact ok_ints | exact cells_ints | exact no_mem | with_reducible exact plain_ints | (refine le_maxLen ?_; omega) | (refine za9 ⟨?_,?_⟩) | (simp only [go_sem,Qc,Qb,zb1,zb2,forall_eq]; done)))
     refine callX_rel [23,800000003] [23,800000003,800000002] [800000003,800000002] c3 ⟨.inl rfl,.inl rfl,.inl rfl,.inl rfl,trivial⟩ ⟨rfl,rfl,trivial⟩ (by simp [namesI,keysO,nth]) (by simp [dstB]) ?_
     rintro _ _ ⟨rs,hr,rfl,rfl⟩
     refine ⟨by simp [namesOK,keysO,nth],?_⟩
     simp (disch:=first | omega | decide +kernel) only [go_sem,Qa,Qb,Qc,Qd,Qe,↓reduceIte,reduceCtorEq,Qf,Qg,Qh]
     (repeat' (first | ((first | (refine gsel_split (fun q' => ?_) (fun q' => ?_)<;>(have h':=q')<;>(try simp only [za1,za2,Ba,Bb,za3,ne_eq,za4,za5,za6,Ia,Ib,Ic,Ie,Da,Bc,Bd,Be,za7,za8] at h')<;>try (exfalso; omega)) | (have q':=trivial; first | refine hE _ _ ret_ne ?_ | refine hE _ _ exit_ne ?_))<;>(try simp (disch:=first | omega | decide +kernel) only [q',go_sem,Qa,Qb,Qc,Qd,Qe,↓reduceIte,reduceCtorEq,Qf,Qg,Qh])<;>clear q') | refine hN _ ?_ ?_ Wk.kk | with_reducible refine And.intro ?_ ?_ | with_reducible omega | exact ok_ints | exact cells_ints | exact no_mem | with_reducible exact plain_ints | (refine le_maxLen ?_; omega) | (refine za9 ⟨?_,?_⟩) | (simp only [go_sem,Qc,Qb,zb1,zb2,forall_eq]; done)))
     refine hN (qs++rs,pr++[(V.length : Int) - 1]) _ hlt ⟨hr,hp1.symm⟩ ((Wk.merge 800000001 800000002 (by decide) rfl rfl).trans (by refine Wk.auto ?_ ?_<;>simp [extraK,lk,killL,St.kill,wipeO,wipeS,AV.has,AV.hasL,AO.wipe,List.map_set,updSt,insL,dropS,ins,del,List.map_append,List.map_cons,List.map_nil,Int.add_assoc]))
   . obtain rfl : j=a:=by omega
     simp (disch:=first | omega | decide +kernel) only [go_sem,Qa,Qb,Qc,Qd,Qe,↓reduceIte,reduceCtorEq,Qf,Qg,Qh]
     (repeat' (first | ((first | (refine gsel_split (fun q' => ?_) (fun q' => ?_)<;>(have h':=q')<;>(try simp only [za1,za2,Ba,Bb,za3,ne_eq,za4,za5,za6,Ia,Ib,Ic,Ie,Da,Bc,Bd,Be,za7,za8] at h')<;>try (exfalso; omega)) | (have q':=trivial; first | refine hE _ _ ret_ne ?_ | refine hE _ _ exit_ne ?_))<;>(try simp (disch:=first | omega | decide +kernel) only [q',go_sem,Qa,Qb,Qc,Qd,Qe,↓reduceIte,reduceCtorEq,Qf,Qg,Qh])<;>clear q') | refine hN _ ?_ ?_ Wk.kk | with_reducible refine And.intro ?_ ?_ | with_reducible omega | exact ok_ints | exact cells_ints | exact no_mem | with_reducible exact plain_ints | (refine le_maxLen ?_; omega) | (refine za9 ⟨?_,?_⟩) | (simp only [go_sem,Qc,Qb,zb1,zb2,forall_eq]; done)))
     clear hN hE
     refine Ok.loopN [67,66,65,64,63,62,61,60,59,58,57,56,55,54,53,52,51,50,49,48,47,46,45,44,43,42,41,40,39,38,37,36,35,34,33,32,31,30,29,28,27,26,25,24,23,22,21,20,19,18,17,16,15,14,13,12,11,10,9,8,7,2,1] (fun i (_ : List Tp × List Int) => [(9,.d (.int .i64 (i : Nat))),(7,.sl 7)]) (fun _ (s : List Tp × List Int) => [(7,.arr 3 1 (s.2.map (.int .i64))),(800000003,plR s.1),(800000001,.res (s.1.map resT))]) (j + 1)
      (fun i s => s.1.map (·.2)=bA j i∧s.2=prA j i) (qs,pr) ⟨hq,hpr⟩ (by refine Wk.auto ?_ ?_<;>simp [extraK,lk,killL,St.kill,wipeO,wipeS,AV.has,AV.hasL,AO.wipe,List.map_set,updSt,insL,dropS,ins,]) ?_
     clear hq hpr hql hpl
     rintro R1 i ⟨qs,pr⟩ hN hE hi ⟨hq,hpr⟩
     simp only at hq hpr
     have hql : qs.length<=200:=by
      have:=bA_len j i
      rw [← hq,List.length_map] at this; omega
     have hpl : pr.length<=20:=by rw [hpr,prA_len]; omega
     dsimp only
     by_cases hlt : i < j + 1
     . obtain ⟨h2,h3⟩:=litsA_ok (i:=i) hn hlt
       have hsm:=getD_small (cnf_small j (by omega)) i
       have c3:=axiom_ok ((j : Int) * (j + 1)) ((j : Int) * (j + 1)) (cnfS j) qs i (by omega) h3 (by omega) h2
       have hb1 : bA j (i + 1)=bA j i++[⟨planI ((j : Int) * (j + 1)) ((cnfS j).getD i []),1,(i : Nat),0,0⟩]:=rfl
       have hp1 : prA j (i + 1)=pr++[((bA j i).length : Int)]:=by rw [prA,← hpr]
       rw [← hq,List.length_map] at hp1
       rw [← hq] at hb1
       simp (disch:=first | omega | decide +kernel) only [go_sem,Qa,Qb,Qc,Qd,Qe,↓reduceIte,reduceCtorEq,Qf,Qg,Qh]
       (repeat' (first | ((first | (refine gsel_split (fun q' => ?_) (fun q' => ?_)<;>(have h':=q')<;>(try simp only [za1,za2,Ba,Bb,za3,ne_eq,za4,za5,za6,Ia,Ib,Ic,Ie,Da,Bc,Bd,Be,za7,za8] at h')<;>try (exfalso; omega)) | (have q':=trivial; first | refine hE _ _ ret_ne ?_ | refine hE _ _ exit_ne ?_))<;>(try simp (disch:=first | omega | decide +kernel) only [q',go_sem,Qa,Qb,Qc,Qd,Qe,↓reduceIte,reduceCtorEq,Qf,Qg,Qh])<;>clear q') | refine hN _ ?_ ?_ Wk.kk | with_reducible refine And.intro ?_ ?_ | with_reducible omega | exact ok_ints | exact cells_ints | exact no_mem | with_reducible exact plain_ints | (refine le_maxLen ?_; omega) | (refine za9 ⟨?_,?_⟩) | (simp only [go_sem,Qc,Qb,zb1,zb2,forall_eq]; done)))
       refine callX_rel [23,800000003] [23,800000003,800000002] [800000003,800000002] c3 ⟨.inl rfl,.inl rfl,.inl rfl,trivial⟩ ⟨rfl,rfl,trivial⟩ (by simp [namesI,keysO,nth]) (by simp [dstB]) ?_
       rintro _ _ ⟨v,rfl,rfl⟩
       refine ⟨by simp [namesOK,keysO,nth],?_⟩
       simp (disch:=first | omega | decide +kernel) only [go_sem,Qa,Qb,Qc,Qd,Qe,↓reduceIte,reduceCtorEq,Qf,Qg,Qh]
       (repeat' (first | ((first | (refine gsel_split (fun q' => ?_) (fun q' => ?_)<;>(have h':=q')<;>(try simp only [za1,za2,Ba,Bb,za3,ne_eq,za4,za5,za6,Ia,Ib,Ic,Ie,Da,Bc,Bd,Be,za7,za8] at h')<;>try (exfalso; omega)) | (have q':=trivial; first | refine hE _ _ ret_ne ?_ | refine hE _ _ exit_ne ?_))<;>(try simp (disch:=first | omega | decide +kernel) only [q',go_sem,Qa,Qb,Qc,Qd,Qe,↓reduceIte,reduceCtorEq,Qf,Qg,Qh])<;>clear q') | refine hN _ ?_ ?_ Wk.kk | with_reducible refine And.intro ?_ ?_ | with_reducible omega | exact ok_ints | exact cells_ints | exact no_mem | with_reducible exact plain_ints | (refine le_maxLen ?_; omega) | (refine za9 ⟨?_,?_⟩) | (simp only [go_sem,Qc,Qb,zb1,zb2,forall_eq]; done)))
       refine hN (qs++[(v,⟨planI ((j : Int) * (j + 1)) ((cnfS j).getD i []),1,(i : Nat),0,0⟩)],pr++[(qs.length : Int)]) _ hlt ⟨by rw [hb1]; simp,hp1.symm⟩ ((Wk.merge 800000001 800000002 (by decide) rfl rfl).trans (by refine Wk.auto ?_ ?_<;>simp [extraK,lk,killL,St.kill,wipeO,wipeS,AV.has,AV.hasL,AO.wipe,List.map_set,updSt,insL,dropS,ins,del,List.map_append,List.map_cons,List.map_nil,Int.add_assoc]))
     . obtain rfl : i=j + 1:=by omega
       have hpa : pr=allP j:=hpr
       have hel : ∀ t,t < 2 * j + 1->el (pr.map (D.int .i64)) t=.int .i64 (pr.getD t 0):=fun t ht => el_ints (by rw [hpa,la]; exact ht)
       rw [← hpa] at la
       have hd : List.take (pr.length - Int.toNat 1) (List.drop (Int.toNat 1) pr)=pr.drop 1:=by
        rw [show Int.toNat 1=1 from rfl,List.take_of_length_le (by simp)]
       have hdl : (pr.drop 1).length=2 * j:=by rw [List.length_drop,la]; omega
       have hel2 : ∀ t,t < 2 * j->el ((pr.drop 1).map (D.int .i64)) t=.int .i64 ((allP j).getD (t + 1) 0):=fun t ht => by
        rw [el_ints (by rw [hdl]; exact ht),← hpa]
        simp [List.getD_eq_getElem?_getD,List.getElem?_drop,Nat.add_comm]
       have hs0 : qs.map (·.2)=(bS j 0).1∧pr.getD 0 0=(bS j 0).2:=⟨hq,by rw [hpa]; rfl⟩
       clear hN hq hpr hel
       simp (disch:=first | omega | decide +kernel) only [Option.isSome_none,Bool.false_eq_true,if_false,hd,go_sem,Qa,Qb,Qc,Qd,Qe,↓reduceIte,reduceCtorEq,Qf,Qg,Qh]
       (repeat' (first | ((first | (refine gsel_split (fun q' => ?_) (fun q' => ?_)<;>(have h':=q')<;>(try simp only [za1,za2,Ba,Bb,za3,ne_eq,za4,za5,za6,Ia,Ib,Ic,Ie,Da,Bc,Bd,Be,za7,za8] at h')<;>try (exfalso; omega)) | (have q':=trivial; first | refine hE _ _ ret_ne ?_ | refine hE _ _ exit_ne ?_))<;>(try simp (disch:=first | omega | decide +kernel) only [q',Option.isSome_none,Bool.false_eq_true,if_false,hd,go_sem,Qa,Qb,Qc,Qd,Qe,↓reduceIte,reduceCtorEq,Qf,Qg,Qh])<;>clear q') | refine hN _ ?_ ?_ Wk.kk | with_reducible refine And.intro ?_ ?_ | with_reducible omega | exact ok_ints | exact cells_ints | exact no_mem | with_reducible exact plain_ints | (refine le_maxLen ?_; omega) | (refine za9 ⟨?_,?_⟩) | (simp only [go_sem,Qc,Qb,zb1,zb2,forall_eq]; done)))
       generalize pr.drop 1=dr at *
       all_goals first | (simp [D.cells]; done) | skip
       refine Ok.loopN [67,66,65,64,63,62,61,60,59,58,57,56,55,52,51,50,49,48,47,46,45,44,43,42,41,40,39,38,37,36,35,34,33,32,31,30,29,28,27,26,25,24,23,22,21,20,19,18,17,16,15,14,13,12,11,10,9,8,7,2,1] (fun k (_ : List Tp) => [(55,.d (.int .i64 (k : Nat))),(10,.d (.int .i64 (bS j k).2))]) (fun _ (qs : List Tp) => [(800000003,plR qs),(800000001,.res (qs.map resT))]) (2 * j)
        (fun k qs => qs.map (·.2)=(bS j k).1) qs hs0.1 (by rw [hs0.2]; exact (by refine Wk.auto ?_ ?_<;>simp [extraK,lk,killL,St.kill,wipeO,wipeS,AV.has,AV.hasL,AO.wipe,List.map_set,updSt,insL,dropS,ins,])) ?_
       clear hql hs0 hE
       rintro R2 k qs hN hE hk hq
       have hql : qs.length<=200:=by
        have:=bS_len j k
        rw [← hq,List.length_map] at this; omega
       by_cases hlt2 : k < 2 * j
       . have c3:=addS_ok hn hlt2 qs hq (by omega)
         have hb1 : bS j (k + 1)=((bS j k).1++[⟨addP ((bS j k).1.getD (bS j k).2.toNat PSt.z).q ((bS j k).1.getD ((allP j).getD (k + 1) 0).toNat PSt.z).q,4,(bS j k).2,(allP j).getD (k + 1) 0,0⟩],(((bS j k).1.length : Nat) : Int)):=rfl
         have he:=hel2 k hlt2
         generalize addP ((bS j k).1.getD (bS j k).2.toNat PSt.z).q ((bS j k).1.getD ((allP j).getD (k + 1) 0).toNat PSt.z).q=z at *
         have hb2 : (bS j (k + 1)).2=(qs.length : Nat):=by rw [hb1,← hq]; simp
         simp (disch:=first | omega | decide +kernel) only [he,go_sem,Qa,Qb,Qc,Qd,Qe,↓reduceIte,reduceCtorEq,Qf,Qg,Qh]
         (repeat' (first | ((first | (refine gsel_split (fun q' => ?_) (fun q' => ?_)<;>(have h':=q')<;>(try simp only [za1,za2,Ba,Bb,za3,ne_eq,za4,za5,za6,Ia,Ib,Ic,Ie,Da,Bc,Bd,Be,za7,za8] at h')<;>try (exfalso; omega)) | (have q':=trivial; first | refine hE _ _ ret_ne ?_ | refine hE _ _ exit_ne ?_))<;>(try simp (disch:=first | omega | decide +kernel) only [q',he,go_sem,Qa,Qb,Qc,Qd,Qe,↓reduceIte,reduceCtorEq,Qf,Qg,Qh])<;>clear q') | refine hN _ ?_ ?_ Wk.kk | with_reducible refine And.intro ?_ ?_ | with_reducible omega | exact ok_ints | exact cells_ints | exact no_mem | with_reducible exact plain_ints | (refine le_maxLen ?_; omega) | (refine za9 ⟨?_,?_⟩) | (simp only [go_sem,Qc,Qb,zb1,zb2,forall_eq]; done)))
         all_goals first | omega | skip
         refine callX_rel [23,800000003] [23,800000003,800000002] [800000003,800000002] c3 ⟨.inl rfl,.inl rfl,.inl rfl,trivial⟩ ⟨rfl,rfl,trivial⟩ (by simp [namesI,keysO,nth]) (by simp [dstB]) ?_
         rintro _ _ ⟨v,rfl,rfl⟩
         refine ⟨by simp [namesOK,keysO,nth],?_⟩
         simp (disch:=first | omega | decide +kernel) only [go_sem,Qa,Qb,Qc,Qd,Qe,↓reduceIte,reduceCtorEq,Qf,Qg,Qh]
         (repeat' (first | ((first | (refine gsel_split (fun q' => ?_) (fun q' => ?_)<;>(have h':=q')<;>(try simp only [za1,za2,Ba,Bb,za3,ne_eq,za4,za5,za6,Ia,Ib,Ic,Ie,Da,Bc,Bd,Be,za7,za8] at h')<;>try (exfalso; omega)) | (have q':=trivial; first | refine hE _ _ ret_ne ?_ | refine hE _ _ exit_ne ?_))<;>(try simp (disch:=first | omega | decide +kernel) only [q',go_sem,Qa,Qb,Qc,Qd,Qe,↓reduceIte,reduceCtorEq,Qf,Qg,Qh])<;>clear q') | refine hN _ ?_ ?_ Wk.kk | with_reducible refine And.intro ?_ ?_ | with_reducible omega | exact ok_ints | exact cells_ints | exact no_mem | with_reducible exact plain_ints | (refine le_maxLen ?_; omega) | (refine za9 ⟨?_,?_⟩) | (simp only [go_sem,Qc,Qb,zb1,zb2,forall_eq]; done)))
         refine hN (qs++[(v,⟨z,4,(bS j k).2,(allP j).getD (k + 1) 0,0⟩)]) _ hlt2 (by rw [hb1,← hq]; simp) ((Wk.merge 800000001 800000002 (by decide) rfl rfl).trans (by rw [hb2]; exact (by refine Wk.auto ?_ ?_<;>simp [extraK,lk,killL,St.kill,wipeO,wipeS,AV.has,AV.hasL,AO.wipe,List.map_set,updSt,insL,dropS,ins,del,List.map_append,List.map_cons,List.map_nil,Int.add_assoc])))
       . obtain rfl : k=2 * j:=by omega
         simp (disch:=first | omega | decide +kernel) only [hdl,go_sem,Qa,Qb,Qc,Qd,Qe,↓reduceIte,reduceCtorEq,Qf,Qg,Qh]
         (repeat' (first | ((first | (refine gsel_split (fun q' => ?_) (fun q' => ?_)<;>(have h':=q')<;>(try simp only [za1,za2,Ba,Bb,za3,ne_eq,za4,za5,za6,Ia,Ib,Ic,Ie,Da,Bc,Bd,Be,za7,za8] at h')<;>try (exfalso; omega)) | (have q':=trivial; first | refine hE _ _ ret_ne ?_ | refine hE _ _ exit_ne ?_))<;>(try simp (disch:=first | omega | decide +kernel) only [q',hdl,go_sem,Qa,Qb,Qc,Qd,Qe,↓reduceIte,reduceCtorEq,Qf,Qg,Qh])<;>clear q') | refine hN _ ?_ ?_ Wk.kk | with_reducible refine And.intro ?_ ?_ | with_reducible omega | exact ok_ints | exact cells_ints | exact no_mem | with_reducible exact plain_ints | (refine le_maxLen ?_; omega) | (refine za9 ⟨?_,?_⟩) | (simp only [go_sem,Qc,Qb,zb1,zb2,forall_eq]; done)))
         have e : qs.map (fun p => D.pst p.2)=(ppV j).map D.pst:=by rw [show ppV j=(bS j (2 * j)).1 from rfl,← hq]; simp
         refine ⟨⟨[(2,.sl 800000003),(3,.d (.bool true))],[(800000003,.dp (some (47,6)) (qs.map fun p => D.pst p.2) none)]⟩,Wk.thawT 800000003 800000001 rfl rfl (fun p hp => ?_) (fun p hp => ?_),?_⟩
         . simp only [List.mem_cons,List.not_mem_nil,or_false] at hp
           rcases hp with rfl | rfl
           . exact ⟨rfl,trivial⟩
           . exact ⟨rfl,rfl⟩
         . obtain rfl:=List.mem_singleton.1 hp
           exact .inl ⟨rfl,rfl⟩
         . rw [e]
           exact ret_dpd 800000003 rfl rfl rfl rfl
end Abs.Y
