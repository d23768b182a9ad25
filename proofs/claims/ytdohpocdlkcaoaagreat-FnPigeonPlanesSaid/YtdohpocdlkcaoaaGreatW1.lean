/- What functions of this program compute, over plain data. No condition. -/
import Derived.Test.YtdohpocdlkcaoaaGreatJ5
import Derived.Test.YtdohpocdlkcaoaaGreatK0
import Derived.Test.YtdohpocdlkcaoaaGreatChecked
import Derived.Shelf.SlSortCmp.Whole1
import Derived.Shelf.SlicesE.DeleteFunc
import Derived.Shelf.Slices.CompactI
import Derived.Shelf.Spec.SlicesGrow
import Derived.Shelf.SlicesG.Cmp
import Derived.LoopN
import Derived.Deep.RegionWith
import Derived.Ground.SlsfProg
import Derived.Ground.SlgfProg
import Derived.Ground.SlgcProg
import Derived.Ground.Names2Prog
import Derived.Ground.Names8Prog
set_option linter.all false
namespace Abs.Y
open Go Go.Proofs Abs
open Nat renaming reduceEqDiff -> Qa, reduceLT -> Qb, reduceAdd -> Qc, reduceMul -> Qd, reduceSub -> Qe, reduceLeDiff -> Qf, reduceSubDiff -> Qg, reduceBEq -> Qh
open Bool renaming not_eq_true' -> Ba, not_eq_false' -> Bb, and_eq_true -> Bc, or_eq_true -> Bd, or_eq_false_iff -> Be
open Int renaming ofNat_lt -> Ia, ofNat_le -> Ib, not_lt -> Ic, not_le -> Ie
open Decidable renaming not_not -> Da
set_option maxRecDepth 100000

def clP (n j i k : Nat) : List Int:=[0 - pvar n i j,0 - pvar n k j]
structure PairF (w : Int) (cs : List (List Int)) (n j : Nat) : Prop where
 n3 : 1<=n∧n<=3
 j3 : 1<=j∧j<=n
 hw : 0<=w∧w<=12
 hl : cs.length<=60∧∀ t,(cs.getD t []).length<=4294967296
 lits : ∀ i k : Nat,1<=i->i < k->k<=n + 1->Lits w (clP n j i k)
 pl : ∀ i k : Nat,1<=i->i < k->k<=n + 1->cs.getD (atP n j i k).toNat []=clP n j i k∧idxR (fun t => decide (cs.getD t []=clP n j i k)) cs.length=atP n j i k
theorem l17Pair_ok {w : Int} {cs : List (List Int)} {n j : Nat} (hF : PairF w cs n j) (i k : Nat) (hik : 1<=i∧i < k∧k<=n + 1) :
 Ctr Tryz.prog 81 [.agg [.int .i64 w,.slice (cs.map D.ints)],.int .i64 (n : Int),.int .i64 (i : Int),.int .i64 (k : Int),.int .i64 (j : Int)] true (.d (D.pst (hPair w cs n j i k))) []:=by
 have h3:=hF.n3
 have hj:=hF.j3
 obtain ⟨e1,e2⟩:=hF.pl i k hik.1 hik.2.1 hik.2.2
 have c1:=l17Var_ok n i j (by omega) (by omega) (by omega)
 have c2:=l17Var_ok n k j (by omega) (by omega) (by omega)
 have b1 : -(1000 : Int)<=pvar n i j∧pvar n i j<=1000:=by have:=pvar_bd (n:=n) (i:=i) (j:=j) (by omega) (by omega) (by omega); unfold pvar; omega
 have b2 : -(1000 : Int)<=pvar n k j∧pvar n k j<=1000:=by have:=pvar_bd (n:=n) (i:=k) (j:=j) (by omega) (by omega) (by omega); unfold pvar; omega
 have c3:=l11PlaceJ_ok cs (clP n j i k) (by have:=hF.hl; omega) hF.hl.2 (by simp [clP])
 have c4:=l16OfClause_ok w (clP n j i k) (by simp [clP]) (hF.lits i k hik.1 hik.2.1 hik.2.2)
 unfold hPair
 rw [e1]
 rw [e2] at c3
 unfold clP at c3 c4 ⊢
 generalize pvar n i j=x1 at *
 generalize pvar n k j=x2 at *
 generalize atP n j i k=a at *
 refine Ctr.ofK (n:=32) (rs:=[.cell 10 47]) Tryz.func81 rfl rfl Tryz.ntmps81 rfl rfl (by kernel_rfl) Tryz.checked.mixed ?_
 refine Ok.seq (Ok.go ?_)
 simp (disch:=first | omega | decide +kernel) only [D.ints,go_sem,Qa,Qb,Qc,Qd,Qe,↓reduceIte,reduceCtorEq,Qf,Qg,Qh]
 refine Ok.seq (Ok.go ?_)
 simp (disch:=first | omega | decide +kernel) only [D.ints,go_sem,Qa,Qb,Qc,Qd,Qe,↓reduceIte,reduceCtorEq,Qf,Qg,Qh]
 (repeat' (first | ((first | (refine gsel_split (fun q' => ?_) (fun q' => ?_)<;>(have h':=q')<;>(try simp only [za1,za2,Ba,Bb,za3,ne_eq,za4,za5,za6,Ia,Ib,Ic,Ie,Da,Bc,Bd,Be,za7,za8] at h')) | (have q':=trivial; first | refine callX_new (c1) rfl (by decide) ?_ | refine callY_new (c1) rfl ?_ | refine callX_new (c2) rfl (by decide) ?_ | refine callY_new (c2) rfl ?_ | refine hE _ _ ret_ne ?_ | refine hE _ _ exit_ne ?_))<;>(try simp (disch:=first | omega | decide +kernel) only [q',D.ints,go_sem,Qa,Qb,Qc,Qd,Qe,↓reduceIte,reduceCtorEq,Qf,Qg,Qh])<;>clear q') | refine hN _ ?_ ?_ Wk.kk | with_reducible refine And.intro ?_ ?_ | with_reducible omega | exact ok_ints | exact cells_ints | exact no_mem | with_reducible exact plain_ints | (refine le_maxLen ?_; omega) | (refine za9 ⟨?_,?_⟩) | (simp only [go_sem,Qc,Qb,zb1,zb2,forall_eq]; done)))
 refine Ok.weak (Wk.frz (j:=22) rfl) ?_
 refine Ok.go ?_
 simp (disch:=first | omega | decide +kernel) only [D.ints,go_sem,Qa,Qb,Qc,Qd,Qe,↓reduceIte,reduceCtorEq,Qf,Qg,Qh]
 (repeat' (first | ((first | (refine gsel_split (fun q' => ?_) (fun q' => ?_)<;>(have h':=q')<;>(try simp only [za1,za2,Ba,Bb,za3,ne_eq,za4,za5,za6,Ia,Ib,Ic,Ie,Da,Bc,Bd,Be,za7,za8] at h')) | (have q':=trivial; first | refine callX_new (c3) rfl (by decide) ?_ | refine callY_new (c3) rfl ?_ | refine callX_shared (c4) rfl (by decide) ?_ | refine callY_shared (c4) rfl ?_ | refine hE _ _ ret_ne ?_ | refine hE _ _ exit_ne ?_))<;>(try simp (disch:=first | omega | decide +kernel) only [q',D.ints,go_sem,Qa,Qb,Qc,Qd,Qe,↓reduceIte,reduceCtorEq,Qf,Qg,Qh])<;>clear q') | refine hN _ ?_ ?_ Wk.kk | with_reducible refine And.intro ?_ ?_ | with_reducible omega | exact ok_ints | exact cells_ints | exact no_mem | with_reducible exact plain_ints | (refine le_maxLen ?_; omega) | (refine za9 ⟨?_,?_⟩) | (simp only [go_sem,Qc,Qb,zb1,zb2,forall_eq]; done)))
 all_goals (first | omega | exact ret_cb rfl rfl (by simp only [go_sem]) (by simp only [go_sem,List.length_cons,List.length_nil]) rfl (by simp only [go_sem]))
set_option maxHeartbeats 8000000 in
theorem l17Hole_ok {n j : Nat} (base : List PSt) (hP : PairF ((n : Int) * (n + 1)) (cnfS n) n j) (hF : HoleF ((n : Int) * (n + 1)) (cnfS n) n j base) (hl : base.length<=1000) :
 CtrM Tryz.prog 42 [.d (.int .i64 (n : Int)),.d (.int .i64 (j : Int)),.sl 0] [(0,.arr 47 6 (base.map D.pst))] [] true (.sl 0)
  [(0,.arr 47 6 ((hM ((n : Int) * (n + 1)) (cnfS n) n j base (n - 1)).map D.pst))]:=by
 have h3:=hP.n3
 have hj:=hP.j3
 have hw:=hP.hw
 have c0:=l17Cnf_ok n (by omega)
 have hp:=fun i k h => l17Pair_ok hP i k h
 have hpq : ∀ a b : Nat,1<=a->a < b->b<=n + 1->(hPair ((n : Int) * (n + 1)) (cnfS n) n j a b).q.co.length=((n : Int) * (n + 1)).toNat∧Bd 1000000 (hPair ((n : Int) * (n + 1)) (cnfS n) n j a b).q:=fun a b h1 h2 h3 => by
  obtain ⟨_,h4,h5⟩:=hF.at_ a b (by omega) (by omega) (by omega)
  have:=planI_inv ((n : Int) * (n + 1)) ((cnfS n).getD (atP n j a b).toNat [])
  exact ⟨this.2,this.1.mono (by omega)⟩
 have hq1:=fun k h => hF.q1 k h
 have hq2:=fun k i h h' => hF.q2 k i h h'
 have hq3:=fun k h => hF.q3 k h
 clear hP hF
 generalize (n : Int) * (n + 1)=w at *
 generalize cnfS n=cs at *
 have c1:=hp 1 2 (by omega)
 refine CtrM.of (n:=101) (rs:=[.tmp 6]) Tryz.func42 rfl rfl Tryz.ntmps42 rfl rfl (by kernel_rfl) Tryz.checked.mixed ?_; intro u
 simp (disch:=first | omega | decide +kernel) only [D.ints,go_sem,Qa,Qb,Qc,Qd,Qe,↓reduceIte,reduceCtorEq,Qf,Qg,Qh]
 (repeat' (first | ((first | (refine gsel_split (fun q' => ?_) (fun q' => ?_)<;>(have h':=q')<;>(try simp only [za1,za2,Ba,Bb,za3,ne_eq,za4,za5,za6,Ia,Ib,Ic,Ie,Da,Bc,Bd,Be,za7,za8] at h')) | (have q':=trivial; first | refine callX_shared (c0) rfl (by decide) ?_ | refine callY_shared (c0) rfl ?_ | refine callX_shared (c1) rfl (by decide) ?_ | refine callY_shared (c1) rfl ?_ | refine hE _ _ ret_ne ?_ | refine hE _ _ exit_ne ?_))<;>(try simp (disch:=first | omega | decide +kernel) only [q',D.ints,go_sem,Qa,Qb,Qc,Qd,Qe,↓reduceIte,reduceCtorEq,Qf,Qg,Qh])<;>clear q') | refine hN _ ?_ ?_ Wk.kk | with_reducible refine And.intro ?_ ?_ | with_reducible omega | exact ok_ints | exact cells_ints | exact no_mem | with_reducible exact plain_ints | (refine le_maxLen ?_; omega) | (refine za9 ⟨?_,?_⟩) | (simp only [go_sem,Qc,Qb,zb1,zb2,forall_eq]; done)))
 . rw [ok_agg]; simp [D.atom,D.ints]
 refine Ok.loopN [100,99,98,97,96,95,94,93,92,91,90,89,88,87,86,85,84,83,82,81,80,79,78,77,76,75,74,73,72,71,70,69,68,67,66,65,64,63,62,61,60,59,58,57,56,55,54,53,52,51,50,49,48,47,46,45,44,43,42,41,40,39,38,37,36,35,34,33,32,31,30,29,28,27,26,25,24,23,22,21,20,19,18,17,16,15,14,13,12,11,10,9,8,6,5,4,3,2] (fun i _ => [(8,.d (.int .i64 (3 + (i : Nat)))),(2,.sl 0)]) (fun _ (L : List PSt) => [(0,.arr 47 6 (L.map D.pst))]) (n - 1)
  (fun i L => L=hM w cs n j base i) (base++[hPair w cs n j 1 2]) rfl (by refine Wk.auto ?_ ?_<;>simp [extraK,lk,killL,St.kill,wipeO,wipeS,AV.has,AV.hasL,AO.wipe,List.map_set,updSt,insL,dropS,ins,List.map_append,List.map_cons,List.map_nil,D.ints]) ?_
 rintro R i L hN hE hi hinv
 have hML:=hM_len (u:=w) (cs:=cs) (n:=n) (j:=j) base i
 have hMP:=hM_pos (u:=w) (cs:=cs) (n:=n) (j:=j) base i
 have hi3 : i * (2 * i + 4)<=100:=by
  have : i<=2:=by omega
  rcases (by omega : i=0∨i=1∨i=2) with rfl | rfl | rfl<;>decide
 rw [← hinv] at hML hMP
 by_cases hlt : i < n - 1
 . have q1:=hq1 i (by omega)
   have hq2:=fun k h => hq2 i k (by omega) h
   have hq3:=hq3 i (by omega)
   have hMs : hM w cs n j base (i + 1)=hD (i + 2) (hI w cs n j (i + 3) (i + 2) (hS (i + 1) (hM w cs n j base i))):=rfl
   rw [← hinv] at q1 hq2 hq3 hMs
   have hb1 : L.length<=1200:=by omega
   have c2:=l16Scale_ok (k:=(i : Int) + 1) (by omega) (q:=lastq L) (okq_len q1 hw.2) q1.2 (by omega) (by omega)
   have hel : el (L.map D.pst) (L.length - 1)=D.pst (L.getD (L.length - 1) PSt.z):=el_pst (by omega)
   have e1 : ((L.length : Int) - 1).toNat=L.length - 1:=by omega
   have e2 : 3 + (i : Int) - 2=i + 1:=by omega
   have hSe : hS (i + 1) L=L++[⟨zipP (fun a _ => ((i : Int) + 1) * a) (lastq L) (lastq L),5,(L.length : Int) - 1,0,(i : Int) + 1⟩]:=rfl
   have c3:=l17Add_ok L 5 ((L.length : Int) - 1) 0 ((i : Int) + 1) (zipP (fun a _ => ((i : Int) + 1) * a) (lastq L) (lastq L)) (by omega)
   have hlq : lastq L=(L.getD (L.length - 1) PSt.z).q:=rfl
   generalize zipP (fun a _ => ((i : Int) + 1) * a) (lastq L) (lastq L)=z0 at *
   rw [hlq] at c2
   generalize hS ((i : Int) + 1) L=L1 at *
   clear q1 hML hinv
   simp (disch:=first | omega | decide +kernel) only [D.ints,e1,e2,hel,go_sem,Qa,Qb,Qc,Qd,Qe,↓reduceIte,reduceCtorEq,Qf,Qg,Qh]
   (repeat' (first | ((first | (refine gsel_split (fun q' => ?_) (fun q' => ?_)<;>(have h':=q')<;>(try simp only [za1,za2,Ba,Bb,za3,ne_eq,za4,za5,za6,Ia,Ib,Ic,Ie,Da,Bc,Bd,Be,za7,za8] at h')) | (have q':=trivial; first | refine callX_shared (c2) rfl (by decide) ?_ | refine callY_shared (c2) rfl ?_ | refine hE _ _ ret_ne ?_ | refine hE _ _ exit_ne ?_))<;>(try simp (disch:=first | omega | decide +kernel) only [q',D.ints,e1,e2,hel,go_sem,Qa,Qb,Qc,Qd,Qe,↓reduceIte,reduceCtorEq,Qf,Qg,Qh])<;>clear q') | refine hN _ ?_ ?_ Wk.kk | with_reducible refine And.intro ?_ ?_ | with_reducible omega | exact ok_ints | exact cells_ints | exact no_mem | with_reducible exact plain_ints | (refine le_maxLen ?_; omega) | (refine za9 ⟨?_,?_⟩) | (simp only [go_sem,Qc,Qb,zb1,zb2,forall_eq]; done)))
   refine callX_mut [0] [0] [0] c3 ⟨.inl rfl,.inl rfl,.inl rfl,.inl rfl,.inl rfl,.inl rfl,trivial⟩ ⟨rfl,trivial⟩ rfl (by simp [dstB]) ?_
   simp (disch:=first | omega | decide +kernel) only [D.ints,go_sem,Qa,Qb,Qc,Qd,Qe,↓reduceIte,reduceCtorEq,Qf,Qg,Qh]
   refine Ok.loopNO [100,99,98,97,96,95,94,93,92,91,90,89,88,87,86,85,84,83,82,81,80,79,78,77,76,75,74,73,72,71,70,69,68,67,66,65,64,63,62,61,60,59,58,57,56,55,54,53,52,51,50,49,48,47,46,45,44,43,42,41,40,39,38,37,36,35,34,33,32,31,30,29,28,27,26,25,24,23,22,21,20,19,18,17,16,15,14,13,12,11,10,9,6,5,4,3,2] (fun k _ => [(9,.d (.int .i64 (1 + (k : Nat)))),(2,.sl 0)]) (fun _ (M : List PSt) => [(0,.arr 47 6 (M.map D.pst))]) (i + 2)
    (fun k M => M=hI w cs n j ((i : Int) + 3) k L1) L1 rfl (by rw [hSe]; exact (by refine Wk.auto ?_ ?_<;>simp [extraK,lk,killL,St.kill,wipeO,wipeS,AV.has,AV.hasL,AO.wipe,List.map_set,updSt,insL,dropS,ins,])) ?_
   rintro R2 k M hN2 hE2 hk hinv2
   have hlen:=hI_len (u:=w) (cs:=cs) (n:=n) (j:=j) (m:=(i : Int) + 3) k L1
   have hL1 : L1.length=L.length + 1:=by rw [hSe]; simp
   rw [hL1,← hinv2] at hlen
   have q2:=hq2 k hk
   by_cases hlt2 : k < i + 2
   . have c4:=hp (k + 1) (i + 3) (by omega)
     have hq5:=hpq (k + 1) (i + 3) (by omega) (by omega) (by omega)
     have hIs : hI w cs n j ((i : Int) + 3) (k + 1) L1=M++[hPair w cs n j ((k : Int) + 1) ((i : Int) + 3),⟨addP (lastq M) (hPair w cs n j ((k : Int) + 1) ((i : Int) + 3)).q,4,(M.length : Int) - 1,M.length,0⟩]:=by rw [hI,← hinv2]
     rw [← hinv2] at q2
     rw [show ((k + 1 : Nat) : Int)=(k : Int) + 1 by omega,show ((i + 3 : Nat) : Int)=(i : Int) + 3 by omega] at c4 hq5
     generalize hPair w cs n j ((k : Int) + 1) ((i : Int) + 3)=P0 at *
     rw [show (k : Int) + 1=1 + k by omega,show (i : Int) + 3=3 + i by omega] at c4
     have hm1 : el (M.map D.pst++[D.pst P0]) (M.length - 1)=D.pst (M.getD (M.length - 1) PSt.z):=by rw [show M.map D.pst++[D.pst P0]=(M++[P0]).map D.pst by simp,el_pst (by simp; omega),getD_app,if_pos (by omega)]
     have hm2 : el (M.map D.pst++[D.pst P0]) M.length=D.pst P0:=by rw [show M.map D.pst++[D.pst P0]=(M++[P0]).map D.pst by simp,el_pst (by simp),getD_app,if_neg (by omega),Nat.sub_self]; rfl
     have e3 : ((M.length : Int) - 1).toNat=M.length - 1:=by omega
     have e4 : (M.length : Int) - 1 + 1=M.length:=by omega
     have c5:=l16Add_ok (q:=lastq M) (r:=P0.q) (okq_len q2 hw.2) (by rw [q2.1,hq5.1]; exact Nat.le_refl _) q2.2 hq5.2 (by omega) (by omega)
     have c6:=l17Add_ok (M++[P0]) 4 ((M.length : Int) - 1) M.length 0 (addP (lastq M) P0.q) (by simp; omega)
     have hlq2 : lastq M=(M.getD (M.length - 1) PSt.z).q:=rfl
     generalize addP (lastq M) P0.q=z1 at *
     rw [hlq2] at c5
     have hap : ∀ L : List PSt,L.map D.pst++[D.pst P0]=(L++[P0]).map D.pst:=fun L => by simp
     clear hp hpq hq2 hq3 hMs hSe c2 c3 c0 c1 q2
     rw [← hap M] at c6
     refine Ok.seq (Ok.go ?_)
     simp (disch:=first | omega | decide +kernel) only [D.ints,go_sem,Qa,Qb,Qc,Qd,Qe,↓reduceIte,reduceCtorEq,Qf,Qg,Qh]
     (repeat' (first | ((first | (refine gsel_split (fun q' => ?_) (fun q' => ?_)<;>(have h':=q')<;>(try simp only [za1,za2,Ba,Bb,za3,ne_eq,za4,za5,za6,Ia,Ib,Ic,Ie,Da,Bc,Bd,Be,za7,za8] at h')<;>try (exfalso; omega)) | (have q':=trivial; first | refine hE _ _ ret_ne ?_ | refine hE _ _ exit_ne ?_))<;>(try simp (disch:=first | omega | decide +kernel) only [q',go_sem,Qa,Qb,Qc,Qd,Qe,↓reduceIte,reduceCtorEq,Qf,Qg,Qh])<;>clear q') | refine hN _ ?_ ?_ Wk.kk | with_reducible refine And.intro ?_ ?_ | with_reducible omega | exact ok_ints | exact cells_ints | exact no_mem | with_reducible exact plain_ints | (refine le_maxLen ?_; omega) | (refine za9 ⟨?_,?_⟩) | (simp only [go_sem,Qc,Qb,zb1,zb2,forall_eq]; done)))
     refine Ok.seq (Ok.block (Ok.seq (Ok.go ?_)))
     simp (disch:=first | omega | decide +kernel) only [D.ints,go_sem,Qa,Qb,Qc,Qd,Qe,↓reduceIte,reduceCtorEq,Qf,Qg,Qh]
     refine Ok.seq (Ok.go ?_)
     simp (disch:=first | omega | decide +kernel) only [D.ints,go_sem,Qa,Qb,Qc,Qd,Qe,↓reduceIte,reduceCtorEq,Qf,Qg,Qh]
     (repeat' (first | ((first | (refine gsel_split (fun q' => ?_) (fun q' => ?_)<;>(have h':=q')<;>(try simp only [za1,za2,Ba,Bb,za3,ne_eq,za4,za5,za6,Ia,Ib,Ic,Ie,Da,Bc,Bd,Be,za7,za8] at h')) | (have q':=trivial; first | refine callX_shared (c4) rfl (by decide) ?_ | refine callY_shared (c4) rfl ?_ | refine hE _ _ ret_ne ?_ | refine hE _ _ exit_ne ?_))<;>(try simp (disch:=first | omega | decide +kernel) only [q',D.ints,go_sem,Qa,Qb,Qc,Qd,Qe,↓reduceIte,reduceCtorEq,Qf,Qg,Qh])<;>clear q') | refine hN _ ?_ ?_ Wk.kk | with_reducible refine And.intro ?_ ?_ | with_reducible omega | exact ok_ints | exact cells_ints | exact no_mem | with_reducible exact plain_ints | (refine le_maxLen ?_; omega) | (refine za9 ⟨?_,?_⟩) | (simp only [go_sem,Qc,Qb,zb1,zb2,forall_eq]; done)))
     all_goals first | (rw [ok_agg]; simp [D.atom,D.ints]; done) | skip
     refine Ok.reg7 [true,true,true,true,true,true,true,true,true,true,true,true,true,true,true,true,false,false] (by decide +kernel) ?_
     simp (disch:=first | omega | decide +kernel) only [D.ints,e3,e4,hm1,hm2,Int.toNat_natCast,go_sem,Qa,Qb,Qc,Qd,Qe,↓reduceIte,reduceCtorEq,Qf,Qg,Qh]
     (repeat' (first | ((first | (refine gsel_split (fun q' => ?_) (fun q' => ?_)<;>(have h':=q')<;>(try simp only [za1,za2,Ba,Bb,za3,ne_eq,za4,za5,za6,Ia,Ib,Ic,Ie,Da,Bc,Bd,Be,za7,za8] at h')) | (have q':=trivial; first | refine callX_shared (c5) rfl (by decide) ?_ | refine callY_shared (c5) rfl ?_ | refine hE _ _ ret_ne ?_ | refine hE _ _ exit_ne ?_))<;>(try simp (disch:=first | omega | decide +kernel) only [q',D.ints,e3,e4,hm1,hm2,Int.toNat_natCast,go_sem,Qa,Qb,Qc,Qd,Qe,↓reduceIte,reduceCtorEq,Qf,Qg,Qh])<;>clear q') | refine hN _ ?_ ?_ Wk.kk | with_reducible refine And.intro ?_ ?_ | with_reducible omega | exact ok_ints | exact cells_ints | exact no_mem | with_reducible exact plain_ints | (refine le_maxLen ?_; omega) | (refine za9 ⟨?_,?_⟩) | (simp only [go_sem,Qc,Qb,zb1,zb2,forall_eq]; done)))
     refine callX_mut [0] [0] [0] c6 ⟨.inl rfl,.inl rfl,.inl rfl,.inl rfl,.inl rfl,.inl rfl,trivial⟩ ⟨rfl,trivial⟩ rfl (by simp [dstB]) ?_
     simp (disch:=first | omega | decide +kernel) only [D.ints,go_sem,Qa,Qb,Qc,Qd,Qe,↓reduceIte,reduceCtorEq,Qf,Qg,Qh]
     refine Ok.go ?_
     simp (disch:=first | omega | decide +kernel) only [go_sem,Qa,Qb,Qc,Qd,Qe,↓reduceIte,reduceCtorEq,Qf,Qg,Qh]
     refine hN2 (M++[P0]++[⟨z1,4,(M.length : Int) - 1,M.length,0⟩]) _ hlt2 (by rw [hIs]; simp) (by refine Wk.auto ?_ ?_<;>simp [extraK,lk,killL,St.kill,wipeO,wipeS,AV.has,AV.hasL,AO.wipe,List.map_set,updSt,insL,dropS,ins,List.map_append,Int.add_assoc])
   . obtain rfl : k=i + 2:=by omega
     have e5 : 3 + (i : Int) - 1=i + 2:=by omega
     have hMs2 : hM w cs n j base (i + 1)=M++[⟨halfK ((i : Int) + 2) (lastq M),6,(M.length : Int) - 1,0,(i : Int) + 2⟩]:=by rw [hMs,hD,← hinv2]
     rw [← hinv2] at q2 hq3
     have c5:=l16DivideK_ok (k:=(i : Int) + 2) (by omega) (q:=lastq M) (okq_len q2 hw.2) q2.2 (by omega)
     rw [hq3,divKP,hq3] at c5
     have c6:=l17Add_ok M 6 ((M.length : Int) - 1) 0 ((i : Int) + 2) (halfK ((i : Int) + 2) (lastq M)) (by omega)
     have hm1 : el (M.map D.pst) (M.length - 1)=D.pst (M.getD (M.length - 1) PSt.z):=el_pst (by omega)
     have e3 : ((M.length : Int) - 1).toNat=M.length - 1:=by omega
     have hlq2 : lastq M=(M.getD (M.length - 1) PSt.z).q:=rfl
     clear hp hpq hq2 hMs hSe c2 c3 c0 c1 q2
     generalize halfK ((i : Int) + 2) (lastq M)=z1 at *
     rw [hlq2] at c5
     refine Ok.go ?_
     simp (disch:=first | omega | decide +kernel) only [D.ints,go_sem,Qa,Qb,Qc,Qd,Qe,↓reduceIte,reduceCtorEq,Qf,Qg,Qh]
     (repeat' (first | ((first | (refine gsel_split (fun q' => ?_) (fun q' => ?_)<;>(have h':=q')<;>(try simp only [za1,za2,Ba,Bb,za3,ne_eq,za4,za5,za6,Ia,Ib,Ic,Ie,Da,Bc,Bd,Be,za7,za8] at h')) | (have q':=trivial; first | refine hE _ _ ret_ne ?_ | refine hE _ _ exit_ne ?_))<;>(try simp (disch:=first | omega | decide +kernel) only [q',go_sem,Qa,Qb,Qc,Qd,Qe,↓reduceIte,reduceCtorEq,Qf,Qg,Qh])<;>clear q') | refine hN _ ?_ ?_ Wk.kk | with_reducible refine And.intro ?_ ?_ | with_reducible omega | exact ok_ints | exact cells_ints | exact no_mem | with_reducible exact plain_ints | (refine le_maxLen ?_; omega) | (refine za9 ⟨?_,?_⟩) | (simp only [go_sem,Qc,Qb,zb1,zb2,forall_eq]; done)))
     refine hE2 _ _ exit_ne ?_
     simp (disch:=first | omega | decide +kernel) only [D.ints,e5,e3,hm1,go_sem,Qa,Qb,Qc,Qd,Qe,↓reduceIte,reduceCtorEq,Qf,Qg,Qh]
     (repeat' (first | ((first | (refine gsel_split (fun q' => ?_) (fun q' => ?_)<;>(have h':=q')<;>(try simp only [za1,za2,Ba,Bb,za3,ne_eq,za4,za5,za6,Ia,Ib,Ic,Ie,Da,Bc,Bd,Be,za7,za8] at h')) | (have q':=trivial; first | refine callX_shared (c5) rfl (by decide) ?_ | refine callY_shared (c5) rfl ?_ | refine hE _ _ ret_ne ?_ | refine hE _ _ exit_ne ?_))<;>(try simp (disch:=first | omega | decide +kernel) only [q',D.ints,e5,e3,hm1,go_sem,Qa,Qb,Qc,Qd,Qe,↓reduceIte,reduceCtorEq,Qf,Qg,Qh])<;>clear q') | refine hN _ ?_ ?_ Wk.kk | with_reducible refine And.intro ?_ ?_ | with_reducible omega | exact ok_ints | exact cells_ints | exact no_mem | with_reducible exact plain_ints | (refine le_maxLen ?_; omega) | (refine za9 ⟨?_,?_⟩) | (simp only [go_sem,Qc,Qb,zb1,zb2,forall_eq]; done)))
     refine callX_mut [0] [0] [0] c6 ⟨.inl rfl,.inl rfl,.inl rfl,.inl rfl,.inl rfl,.inl rfl,trivial⟩ ⟨rfl,trivial⟩ rfl (by simp [dstB]) ?_
     simp (disch:=first | omega | decide +kernel) only [D.ints,go_sem,Qa,Qb,Qc,Qd,Qe,↓reduceIte,reduceCtorEq,Qf,Qg,Qh]
     refine hN (M++[⟨z1,6,(M.length : Int) - 1,0,(i : Int) + 2⟩]) _ hlt hMs2.symm (by refine Wk.auto ?_ ?_<;>simp [extraK,lk,killL,St.kill,wipeO,wipeS,AV.has,AV.hasL,AO.wipe,List.map_set,updSt,insL,dropS,ins,List.map_append,Int.add_assoc])
 . obtain rfl : i=n - 1:=by omega
   simp (disch:=first | omega | decide +kernel) only [go_sem,Qa,Qb,Qc,Qd,Qe,↓reduceIte,reduceCtorEq,Qf,Qg,Qh]
   (repeat' (first | ((first | (refine gsel_split (fun q' => ?_) (fun q' => ?_)<;>(have h':=q')<;>(try simp only [za1,za2,Ba,Bb,za3,ne_eq,za4,za5,za6,Ia,Ib,Ic,Ie,Da,Bc,Bd,Be,za7,za8] at h')) | (have q':=trivial; first | refine hE _ _ ret_ne ?_ | refine hE _ _ exit_ne ?_))<;>(try simp (disch:=first | omega | decide +kernel) only [q',go_sem,Qa,Qb,Qc,Qd,Qe,↓reduceIte,reduceCtorEq,Qf,Qg,Qh])<;>clear q') | refine hN _ ?_ ?_ Wk.kk | with_reducible refine And.intro ?_ ?_ | with_reducible omega | exact ok_ints | exact cells_ints | exact no_mem | with_reducible exact plain_ints | (refine le_maxLen ?_; omega) | (refine za9 ⟨?_,?_⟩) | (simp only [go_sem,Qc,Qb,zb1,zb2,forall_eq]; done)))
   rw [← hinv]
   exact retM_s1 0 rfl rfl fun _ => rfl
end Abs.Y

namespace Abs.Y
open Go Go.Proofs Abs
open Nat renaming reduceEqDiff -> Qa, reduceLT -> Qb, reduceAdd -> Qc, reduceMul -> Qd, reduceSub -> Qe, reduceLeDiff -> Qf, reduceSubDiff -> Qg, reduceBEq -> Qh
open Bool renaming not_eq_true' -> Ba, not_eq_false' -> Bb, and_eq_true -> Bc, or_eq_true -> Bd, or_eq_false_iff -> Be
open Int renaming ofNat_lt -> Ia, ofNat_le -> Ib, not_lt -> Ic, not_le -> Ie
open Decidable renaming not_not -> Da
set_option maxRecDepth 100000

def okCnf (v : Int) (cs : List (List Int)) : Bool:=(okVars v && decide (cs.length<=60)) && cs.all (okClause v)
theorem okCnf_bad {v : Int} {cs : List (List Int)} {i : Nat} (h : i < cs.length) (h' : okClause v (cs.getD i [])=false) : okCnf v cs=false:=by
 rw [okCnf,all_false (z:=[]) h h',Bool.and_false]
theorem okCnf_good {v : Int} {cs : List (List Int)} (h : ∀ j,j < cs.length->okClause v (cs.getD j [])=true) : okCnf v cs=(okVars v && decide (cs.length<=60)):=by
 rw [okCnf,all_true (z:=[]) h,Bool.and_true]
theorem isCnf_ok (v : Int) (cs : List (List Int)) (hl : cs.length<=4294967296) (hc : ∀ j,(cs.getD j []).length<=4294967296) :
 Ctr Tryz.prog 52 [.agg [.int .i64 v,.slice (cs.map D.ints)]] false (.d (.bool (okCnf v cs))) []:=by
 refine Ctr.of (n:=27) (rs:=[.tmp 2]) Tryz.func52 rfl rfl Tryz.ntmps52 rfl rfl (by kernel_rfl) Tryz.checked.mixed ?_
 simp (disch:=first | omega | decide +kernel) only [go_sem,Qa,Qb,Qc,Qd,Qe,↓reduceIte,reduceCtorEq,Qf,Qg,Qh]
 refine Ok.loopC [17,16,15,14,13,12,11,10,9,8,5,4,3,2,0] (fun i => [(8,.d (.int .i64 (i : Nat)))]) cs.length (fun i => ∀ j,j < i->okClause v (cs.getD j [])=true) (by simp) (Wk.kk) ?_
 intro R i hN hE hi hI
 simp (disch:=first | omega | decide +kernel) only [go_sem,Qa,Qb,Qc,Qd,Qe,↓reduceIte,reduceCtorEq,Qf,Qg,Qh]
 (repeat' (first | ((first | (refine gsel_split (fun q' => ?_) (fun q' => ?_)<;>(have h':=q')<;>(try simp only [za1,za2,Ba,Bb,za3,ne_eq,za4,za5,za6,Ia,Ib,Ic,Ie,Da,Bc,Bd,Be,za7,za8] at h')) | (have q':=trivial; first | refine callX_new (isClause_ok v _ (hc _)) rfl (by decide) ?_ | refine callY_new (isClause_ok v _ (hc _)) rfl ?_ | refine callX_new (varsOk_ok _) rfl (by decide) ?_ | refine callY_new (varsOk_ok _) rfl ?_ | refine hE _ _ ret_ne ?_ | refine hE _ _ exit_ne ?_))<;>(try simp (disch:=first | omega | decide +kernel) only [q',go_sem,Qa,Qb,Qc,Qd,Qe,↓reduceIte,reduceCtorEq,Qf,Qg,Qh])<;>clear q') | refine hN _ ?_ ?_ Wk.kk | with_reducible refine And.intro ?_ ?_ | with_reducible omega | exact ok_ints | exact cells_ints | exact no_mem | with_reducible exact plain_ints | (refine le_maxLen ?_; omega) | (refine za9 ⟨?_,?_⟩) | (simp only [go_sem,Qc,Qb,zb1,zb2,forall_eq]; done)))
 . rename_i h1
   rw [okCnf_bad h1 h']
 . exact all_succ hI h'
 . rw [okCnf_good fun j hj => hI j (by omega),h',Bool.true_and,decide_eq_decide.2 (by omega : (cs.length : Int)<=60↔cs.length<=60)]
 . simp [okCnf,h']
def okEarlier (v : Int) (steps : List Step) (k i : Int) : Bool:=(decide (0<=i) && decide (i<=k - 1)) && okClause v (steps.getD i.toNat Step.z).c
end Abs.Y

namespace Abs.Y
open Go Go.Proofs Abs
open Nat renaming reduceEqDiff -> Qa, reduceLT -> Qb, reduceAdd -> Qc, reduceMul -> Qd, reduceSub -> Qe, reduceLeDiff -> Qf, reduceSubDiff -> Qg, reduceBEq -> Qh
open Bool renaming not_eq_true' -> Ba, not_eq_false' -> Bb, and_eq_true -> Bc, or_eq_true -> Bd, or_eq_false_iff -> Be
open Int renaming ofNat_lt -> Ia, ofNat_le -> Ib, not_lt -> Ic, not_le -> Ie
open Decidable renaming not_not -> Da
set_option maxRecDepth 100000

theorem clone_ok (xs : List Int) (hl : xs.length<=4294967296) : Ctr Tryz.prog 126 [.ints xs] false (.sl 0) [(0,.arr 3 1 (xs.map (.int .i64)))]:=by
 refine Ctr.of (n:=8) (rs:=[.tmp 2]) Tryz.func126 rfl rfl Tryz.ntmps126 rfl rfl (by kernel_rfl) Tryz.checked.mixed ?_
 simp (disch:=first | omega | decide +kernel) only [D.ints,go_sem,Qa,Qb,Qc,Qd,Qe,↓reduceIte,reduceCtorEq,Qf,Qg,Qh]
 intro b hb
 cases b with
 | true =>
   obtain rfl : xs=[]:=by cases xs with | nil => rfl | cons x r => simp at hb
   simp (disch:=first | omega | decide +kernel) only [go_sem,Qa,Qb,Qc,Qd,Qe,↓reduceIte,reduceCtorEq,Qf,Qg,Qh]
   (repeat' (first | ((first | (refine gsel_split (fun q' => ?_) (fun q' => ?_)<;>(have h':=q')<;>(try simp only [za1,za2,Ba,Bb,za3,ne_eq,za4,za5,za6,Ia,Ib,Ic,Ie,Da,Bc,Bd,Be,za7,za8] at h')) | (have q':=trivial; first | refine hE _ _ ret_ne ?_ | refine hE _ _ exit_ne ?_))<;>(try simp (disch:=first | omega | decide +kernel) only [q',go_sem,Qa,Qb,Qc,Qd,Qe,↓reduceIte,reduceCtorEq,Qf,Qg,Qh])<;>clear q') | refine hN _ ?_ ?_ Wk.kk | with_reducible refine And.intro ?_ ?_ | with_reducible omega | exact ok_ints | exact cells_ints | exact no_mem | with_reducible exact plain_ints | (refine le_maxLen ?_; omega) | (refine za9 ⟨?_,?_⟩) | (simp only [go_sem,Qc,Qb,zb1,zb2,forall_eq]; done)))
   exact ret_sl 2 rfl rfl no_mem
 | false =>
   simp (disch:=first | omega | decide +kernel) only [go_sem,Qa,Qb,Qc,Qd,Qe,↓reduceIte,reduceCtorEq,Qf,Qg,Qh]
   (repeat' (first | ((first | (refine gsel_split (fun q' => ?_) (fun q' => ?_)<;>(have h':=q')<;>(try simp only [za1,za2,Ba,Bb,za3,ne_eq,za4,za5,za6,Ia,Ib,Ic,Ie,Da,Bc,Bd,Be,za7,za8] at h')) | (have q':=trivial; first | refine hE _ _ ret_ne ?_ | refine hE _ _ exit_ne ?_))<;>(try simp (disch:=first | omega | decide +kernel) only [q',go_sem,Qa,Qb,Qc,Qd,Qe,↓reduceIte,reduceCtorEq,Qf,Qg,Qh])<;>clear q') | refine hN _ ?_ ?_ Wk.kk | with_reducible refine And.intro ?_ ?_ | with_reducible omega | exact ok_ints | exact cells_ints | exact no_mem | with_reducible exact plain_ints | (refine le_maxLen ?_; omega) | (refine za9 ⟨?_,?_⟩) | (simp only [go_sem,Qc,Qb,zb1,zb2,forall_eq]; done)))
   exact ret_sl 5 rfl rfl plain_ints
def putI (c : List Int) (l : Int) : List Int:=c.takeWhile (fun x => decide (varI x < varI l))++l :: c.dropWhile (fun x => decide (varI x < varI l))
def joinI : List Int->List Int->Option (List Int)
 | a,[] => some a
 | a,x :: r => if a.any (· == IntKind.i64.wrap (0 - x)) then none else joinI (if a.any (· == x) then a else putI a x) r
def optL (o : Option (List Int)) : List Int:=match o with | some c => c | none => []
def resolveI (a b : List Int) (v : Int) : Option (List Int) :=
 if (a.any (· == v) && b.any (· == IntKind.i64.wrap (0 - v)))=true then joinI (a.filter fun l => varI l != v) (b.filter fun l => varI l != v) else none
end Abs.Y

namespace Go.Proofs
open Go.Shelf Go.RowKit Go.Lib Go.Sort
def Tryz.layS_ren : Go.Shelf.Ren:=⟨fun | 6 => 138 | 15 => 146 | 14 => 148 | 28 => 166 | 29 => 167 | 20 => 168 | 21 => 169 | 22 => 170 | 23 => 171 | 24 => 172 | 25 => 173 | 26 => 174 | 27 => 175 | 46 => 182 | 47 => 178 | 48 => 179 | 49 => 183 | 50 => 184 | 57 => 186 | n => n,fun | 22 => 41 | 24 => 3 | 25 => 72 | 3 => 3 | 39 => 157 | 0 => 0 | 53 => 173 | 55 => 88 | 4 => 4 | 46 => 167 | 45 => 166 | 50 => 57 | 5 => 5 | 9 => 9 | 66 => 180 | 70 => 184 | 76 => 188 | 77 => 38 | n => n,fun | n => n⟩
theorem Tryz.layS : Go.Proofs.SlLaysF.n6 Tryz.prog Tryz.layS_ren:={
 mixed:=by kernel_rfl
 f6:=⟨Tryz.f138.name,by decide,Tryz.func138.trans (congrArg some (by kernel_rfl))⟩
 f14:=⟨Tryz.f148.name,by decide,Tryz.func148.trans (congrArg some (by kernel_rfl))⟩
 f15:=Tryz.func146.trans (congrArg some (by kernel_rfl))
 f20:=⟨Tryz.f168.name,by decide,Tryz.func168.trans (congrArg some (by kernel_rfl))⟩
 f21:=⟨Tryz.f169.name,by decide,Tryz.func169.trans (congrArg some (by kernel_rfl))⟩
 f22:=⟨Tryz.f170.name,by decide,Tryz.func170.trans (congrArg some (by kernel_rfl))⟩
 f23:=⟨Tryz.f171.name,by decide,Tryz.func171.trans (congrArg some (by kernel_rfl))⟩
 f24:=⟨Tryz.f172.name,by decide,Tryz.func172.trans (congrArg some (by kernel_rfl))⟩
 f25:=⟨Tryz.f173.name,by decide,Tryz.func173.trans (congrArg some (by kernel_rfl))⟩
 f26:=⟨Tryz.f174.name,by decide,Tryz.func174.trans (congrArg some (by kernel_rfl))⟩
 f27:=⟨Tryz.f175.name,by decide,Tryz.func175.trans (congrArg some (by kernel_rfl))⟩
 f28:=Tryz.func166.trans (congrArg some (by kernel_rfl))
 f29:=Tryz.func167.trans (congrArg some (by kernel_rfl))
 f46:=⟨Tryz.f182.name,by decide,Tryz.func182.trans (congrArg some (by kernel_rfl))⟩
 f47:=Tryz.func178.trans (congrArg some (by kernel_rfl))
 f48:=Tryz.func179.trans (congrArg some (by kernel_rfl))
 f49:=⟨Tryz.f183.name,by decide,Tryz.func183.trans (congrArg some (by kernel_rfl))⟩
 f50:=⟨Tryz.f184.name,by decide,Tryz.func184.trans (congrArg some (by kernel_rfl))⟩
 f57:=⟨Tryz.f186.name,by decide,Tryz.func186.trans (congrArg some (by kernel_rfl))⟩
 t0:=Tryz.underlying0
 a0:=Tryz.isAgg0
 z0:=Tryz.sizeOf0
 v0:=Tryz.zeroValue0
 t3:=Tryz.underlying3
 a3:=Tryz.isAgg3
 z3:=Tryz.sizeOf3
 v3:=Tryz.zeroValue3
 t4:=Tryz.underlying4
 a4:=Tryz.isAgg4
 z4:=Tryz.sizeOf4
 v4:=Tryz.zeroValue4
 t5:=Tryz.underlying5
 a5:=Tryz.isAgg5
 z5:=Tryz.sizeOf5
 v5:=Tryz.zeroValue5
 t9:=Tryz.underlying9
 a9:=Tryz.isAgg9
 z9:=Tryz.sizeOf9
 v9:=Tryz.zeroValue9
 t22:=Tryz.underlying41
 a22:=Tryz.isAgg41
 z22:=Tryz.sizeOf41
 v22:=Tryz.zeroValue41
 a24:=Tryz.isAgg3
 z24:=Tryz.sizeOf3
 t25:=Tryz.underlying72
 a25:=Tryz.isAgg72
 z25:=Tryz.sizeOf72
 v25:=Tryz.zeroValue72
 t39:=Tryz.underlying157
 a39:=Tryz.isAgg157
 z39:=Tryz.sizeOf157
 v39:=Tryz.zeroValue157
 t45:=Tryz.underlying166
 a45:=Tryz.isAgg166
 z45:=Tryz.sizeOf166
 v45:=Tryz.zeroValue166
 t46:=Tryz.underlying167
 a46:=Tryz.isAgg167
 z46:=Tryz.sizeOf167
 v46:=Tryz.zeroValue167
 t50:=Tryz.underlying57
 a50:=Tryz.isAgg57
 z50:=Tryz.sizeOf57
 v50:=Tryz.zeroValue57
 t53:=Tryz.underlying173
 a53:=Tryz.isAgg173
 z53:=Tryz.sizeOf173
 v53:=Tryz.zeroValue173
 t55:=Tryz.underlying88
 a55:=Tryz.isAgg88
 z55:=Tryz.sizeOf88
 v55:=Tryz.zeroValue88
 t66:=Tryz.underlying180
 a66:=Tryz.isAgg180
 z66:=Tryz.sizeOf180
 v66:=Tryz.zeroValue180
 t70:=Tryz.underlying184
 a70:=Tryz.isAgg184
 z70:=Tryz.sizeOf184
 v70:=Tryz.zeroValue184
 t76:=Tryz.underlying188
 a76:=Tryz.isAgg188
 z76:=Tryz.sizeOf188
 v76:=Tryz.zeroValue188
 t77:=Tryz.underlying38
 a77:=Tryz.isAgg38
 z77:=Tryz.sizeOf38
 v77:=Tryz.zeroValue38 }
def Tryz.layC_ren : Go.Shelf.Ren:=⟨fun | 20 => 140 | n => n,fun | 22 => 41 | 3 => 3 | 4 => 4 | 0 => 0 | n => n,fun | n => n⟩
theorem Tryz.layC : Go.Proofs.Lays2.n20 Tryz.prog Tryz.layC_ren:={
 mixed:=by kernel_rfl
 f20:=Tryz.func140.trans (congrArg some (by kernel_rfl))
 t0:=Tryz.underlying0
 a0:=Tryz.isAgg0
 z0:=Tryz.sizeOf0
 v0:=Tryz.zeroValue0
 t3:=Tryz.underlying3
 a3:=Tryz.isAgg3
 z3:=Tryz.sizeOf3
 v3:=Tryz.zeroValue3
 t4:=Tryz.underlying4
 a4:=Tryz.isAgg4
 z4:=Tryz.sizeOf4
 v4:=Tryz.zeroValue4
 t22:=Tryz.underlying41
 a22:=Tryz.isAgg41
 z22:=Tryz.sizeOf41
 v22:=Tryz.zeroValue41
 i3:=by kernel_rfl }
def Tryz.layP_ren : Go.Shelf.Ren:=⟨fun | 5 => 150 | 7 => 176 | n => n,fun | 22 => 3 | 3 => 3 | 4 => 4 | n => n,fun | n => n⟩
theorem Tryz.layP : Go.Proofs.SlLaysC2.n5 Tryz.prog Tryz.layP_ren:={
 mixed:=by kernel_rfl
 f5:=⟨Tryz.f150.name,by decide,Tryz.func150.trans (congrArg some (by kernel_rfl))⟩
 f7:=⟨Tryz.f176.name,by decide,Tryz.func176.trans (congrArg some (by kernel_rfl))⟩
 t3:=Tryz.underlying3
 a3:=Tryz.isAgg3
 z3:=Tryz.sizeOf3
 v3:=Tryz.zeroValue3
 t4:=Tryz.underlying4
 a4:=Tryz.isAgg4
 z4:=Tryz.sizeOf4
 v4:=Tryz.zeroValue4
 t22:=Tryz.underlying3
 a22:=Tryz.isAgg3
 z22:=Tryz.sizeOf3
 v22:=Tryz.zeroValue3 }

theorem Tryz.abs_w (n : Int) (W : World) : Calls Tryz.prog 124 #[.int .i64 n] W fun e w' => e=.returned (.int .i64 (max n (wrap64 (-n))))∧w'=W:=by
 generalize hr : max n (wrap64 (-n))=r
 go_enter Tryz.func124,Tryz.ntmps124
 go_wp2
 go_ret
 exact ⟨rfl,rfl⟩
def cmpLit (a b : Int) : Int:=if compareInt (max a (wrap64 (-a))) (max b (wrap64 (-b))) ≠ 0 then compareInt (max a (wrap64 (-a))) (max b (wrap64 (-b))) else compareInt b a
theorem Tryz.or_w (x y : Int) (W : World) (b : Nat) (hx : W.cell? ⟨b,0,none⟩=some (.int .i64 x)) (hy : W.cell? ⟨b,1,none⟩=some (.int .i64 y)) :
 Calls Tryz.prog 149 #[.slice (some ⟨b,0,none⟩) 2 2] W fun e w' => e=.returned (.int .i64 (if x ≠ 0 then x else y))∧∃ q,w'=W.drewN q:=by
 generalize hr : (if x ≠ 0 then x else y)=r
 go_enter Tryz.func149,Tryz.ntmps149
 go_wp2
 refine wp_loop_rounds 3 ?_
 unfold Code.rounds
 go_wp2
 . rename_i h2
   rw [if_pos (by simpa using h2)] at hr
   go_ret
   exact ⟨by rw [hr]; rfl,0,rfl⟩
 . rename_i h2
   have hx0 : x=0:=by simpa using h2
   rw [if_neg (by simp [hx0])] at hr
   unfold Code.rounds
   go_wp2
   . go_ret
     exact ⟨rfl,0,rfl⟩
   . rename_i h3
     have hr0 : r=0:=by simpa using h3
     subst hr0
     unfold Code.rounds
     go_wp2
     go_ret
     exact ⟨rfl,0,rfl⟩
theorem cell_alloc2 (w : World) (u v : Value) (t : TypeId) : (w.alloc (.cells #[u,v] t)).cell? ⟨w.heap.size,0,none⟩=some u∧(w.alloc (.cells #[u,v] t)).cell? ⟨w.heap.size,1,none⟩=some v:=by
 have h : (w.alloc (.cells #[u,v] t)).heap[w.heap.size]? = some (.cells #[u,v] t):=by
  show (w.heap.push _)[w.heap.size]? = _
  simp
 constructor<;>(unfold World.cell?; rw [h]; rfl)
theorem Tryz.cmpLit_w (a b : Int) (W : World) : Calls Tryz.prog 139 #[.int .i64 a,.int .i64 b] W fun e w' => e=.returned (.int .i64 (cmpLit a b))∧∃ q os,w'=grow (W.drewN q) os:=by
 have h1:=Tryz.abs_w
 have h2:=fun x y => AnyG.cmp_Compare_int Tryz.layP x y
 change ∀ x y w,Calls Tryz.prog 150 _ _ _ at h2
 go_enter Tryz.func139,Tryz.ntmps139
 go_wp2_with (first | (go_at_call 124; refine (h1 _ _).mono ?_; rintro e w' ⟨rfl,rfl⟩) | (go_at_call 150; refine (h2 _ _ _).mono ?_; rintro e w' ⟨rfl,rfl⟩) | (go_at_call 149; refine (Tryz.or_w _ _ _ _ (cell_alloc2 _ _ _ _).1 (cell_alloc2 _ _ _ _).2).mono ?_; rintro e w' ⟨rfl,q,rfl⟩))
 all_goals (go_ret; rw [alloc_eq_grow]; exact ⟨by simp_all [cmpLit],q,_,rfl⟩)
end Go.Proofs
