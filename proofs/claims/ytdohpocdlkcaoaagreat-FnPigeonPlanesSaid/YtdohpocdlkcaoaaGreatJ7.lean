/- What functions of this program compute, over plain data. No condition. -/
import Derived.Test.YtdohpocdlkcaoaaGreatJ5
import Derived.Test.YtdohpocdlkcaoaaGreatG5d
import Derived.Test.YtdohpocdlkcaoaaGreatW1
set_option linter.all false
namespace Abs.Y
open Go Go.Proofs Abs
open Nat renaming reduceEqDiff -> Qa, reduceLT -> Qb, reduceAdd -> Qc, reduceMul -> Qd, reduceSub -> Qe, reduceLeDiff -> Qf, reduceSubDiff -> Qg, reduceBEq -> Qh
open Bool renaming not_eq_true' -> Ba, not_eq_false' -> Bb, and_eq_true -> Bc, or_eq_true -> Bd, or_eq_false_iff -> Be
open Int renaming ofNat_lt -> Ia, ofNat_le -> Ib, not_lt -> Ic, not_le -> Ie
open Decidable renaming not_not -> Da
set_option maxRecDepth 100000

def mustI (xs : List Int) : List Int:=optL (clauseI xs)
theorem mustClause_ok (xs : List Int) (hl : xs.length<=1000) : Ctr Tryz.prog 84 [.ints xs] false (.sl 0) [(0,.arr 3 1 ((mustI xs).map (.int .i64)))]:=by
 have c1:=clause_ok xs (by omega)
 unfold mustI
 refine Ctr.of (n:=11) (rs:=[.tmp 2]) Tryz.func84 rfl rfl Tryz.ntmps84 rfl rfl (by kernel_rfl) Tryz.checked.mixed ?_
 simp (disch:=first | omega | decide +kernel) only [D.ints,go_sem,Qa,Qb,Qc,Qd,Qe,↓reduceIte,reduceCtorEq,Qf,Qg,Qh]
 (repeat' (first | ((first | (refine gsel_split (fun q' => ?_) (fun q' => ?_)<;>(have h':=q')<;>(try simp only [za1,za2,Ba,Bb,za3,ne_eq,za4,za5,za6,Ia,Ib,Ic,Ie,Da,Bc,Bd,Be,za7,za8] at h')) | (have q':=trivial; first | refine callX_new (c1) rfl (by decide) ?_ | refine callY_new (c1) rfl ?_ | refine hE _ _ ret_ne ?_ | refine hE _ _ exit_ne ?_))<;>(try simp (disch:=first | omega | decide +kernel) only [q',D.ints,go_sem,Qa,Qb,Qc,Qd,Qe,↓reduceIte,reduceCtorEq,Qf,Qg,Qh])<;>clear q') | refine hN _ ?_ ?_ Wk.kk | with_reducible refine And.intro ?_ ?_ | with_reducible omega | exact ok_ints | exact cells_ints | exact no_mem | with_reducible exact plain_ints | (refine le_maxLen ?_; omega) | (refine za9 ⟨?_,?_⟩) | (simp only [go_sem,Qc,Qb,zb1,zb2,forall_eq]; done)))
 all_goals (first | exact ret_sl _ rfl rfl plain_ints)
theorem retM_fam {P : Program} {u : Nat->Value} {st : St} {a b : AO} {k : Nat} (e : Exit) (he : e=.normal∨e=.ret) (h0 : lk 0 st.o=some (a.ren (nth [0,k]))) (h1 : lk k st.o=some (b.ren (nth [0,k]))) (hk : k ≠ 0) (hm : lk 1000000000 st.s=some (.hdr 0 (u 0))) (hp : plainO [(0,a),(1,b)]) : retM P [] u [0] false (.tup []) [(0,a),(1,b)] e st:=by
 have key : retM P [] u [0] false (.tup []) [(0,a),(1,b)] .ret st:=by
  simp only [retM,resV]
  refine ⟨trivial,⟨nth [0,k],rfl,?_,by simp [nth,hk,Ne.symm hk],⟨rfl,hm,trivial⟩⟩,.inr ⟨trivial,hp⟩⟩
  intro p hp
  simp only [List.mem_cons,List.not_mem_nil,or_false] at hp
  rcases hp with rfl | rfl
  . exact h0
  . exact h1
 rcases he with rfl | rfl<;>exact key
theorem retM_cbd {P : Program} {a j u : Nat} {t e : TypeId} {cells : List AV} {ds : List D} {y : D} {w : Nat->Value} {st : St} (h : lk a st.s=some (.p j 0)) (h' : lk u st.s=some (.d y)) (hj : lk j st.o=some (.box e cells)) (hag : aggT P t=true) (hn : P.cellsOf t=cells.length) (hd : allD cells=some ds)
 (hu : (P.underlying t).isSome=true) : retM P [.cell a t,.tmp u] w [] true (.tup [.d (.agg ds),.d y]) [] .ret st:=by
 have hl : (lk a st.s).bind (loadV P st.o t)=some (0 + P.cellsOf t<=cells.length∧(P.underlying t).isSome=true,.d (.agg ds)):=by
  rw [h,Option.bind_some,loadV,hj]
  simp only [hag,if_true,List.drop_zero,hn,List.take_length,hd]
 simp only [retM,resV,hl,h']
 exact ⟨⟨hu,⟨by omega,hu⟩,trivial⟩,⟨fun j => j,rfl,by simp,by simp,trivial⟩,.inl trivial⟩
@[reducible] def fmB (v : Int) (k : Nat) : AO:=.box 80 [.d (.int .i64 v),.sl k]
@[reducible] def fmT (L : List (List Int)) : AO:=.dp (some (41,1)) (L.map D.ints) none
set_option maxHeartbeats 4000000 in
theorem famAdd_ok (v : Int) (L : List (List Int)) (xs : List Int) (hl : xs.length<=1000) (hL : L.length<=1000) : CtrM Tryz.prog 47 [.p 0 0,.d (.ints xs)] [(0,fmB v 1),(1,fmT L)] [0] false (.tup []) [(0,fmB v 1),(1,fmT (L++[mustI xs]))]:=by
 have c1:=(mustClause_ok xs hl).deep (by rw [bare_ints]; trivial)
 refine CtrM.of (n:=15) (rs:=[]) Tryz.func47 rfl rfl Tryz.ntmps47 rfl rfl (by kernel_rfl) Tryz.checked.mixed ?_; intro u
 simp (disch:=first | omega | decide +kernel) only [D.ints,go_sem,Qa,Qb,Qc,Qd,Qe,↓reduceIte,reduceCtorEq,Qf,Qg,Qh]
 (repeat' (first | ((first | (refine gsel_split (fun q' => ?_) (fun q' => ?_)<;>(have h':=q')<;>(try simp only [za1,za2,Ba,Bb,za3,ne_eq,za4,za5,za6,Ia,Ib,Ic,Ie,Da,Bc,Bd,Be,za7,za8] at h')) | (have q':=trivial; first | refine callX_new (c1) rfl (by decide) ?_ | refine callY_new (c1) rfl ?_ | refine hE _ _ ret_ne ?_ | refine hE _ _ exit_ne ?_))<;>(try simp (disch:=first | omega | decide +kernel) only [q',D.ints,go_sem,Qa,Qb,Qc,Qd,Qe,↓reduceIte,reduceCtorEq,Qf,Qg,Qh])<;>clear q') | refine hN _ ?_ ?_ Wk.kk | with_reducible refine And.intro ?_ ?_ | with_reducible omega | exact ok_ints | exact cells_ints | exact no_mem | with_reducible exact plain_ints | (refine le_maxLen ?_; omega) | (refine za9 ⟨?_,?_⟩) | (simp only [go_sem,Qc,Qb,zb1,zb2,forall_eq]; done)))
 all_goals exact retM_fam (k:=1) _ (by first | exact .inl rfl | exact .inr rfl) rfl (by simp only [fmT,List.map_append]; rfl) (by decide) rfl (by simp [plainO,AO.plain,AV.plain,AV.plainL,D.plain])
set_option maxHeartbeats 4000000 in
theorem famCnf_ok (v : Int) (L : List (List Int)) (hok : okCnf v L=true) (hL : L.length<=1000) (hx : ∀ j,(L.getD j []).length<=4294967296) : CtrM Tryz.prog 48 [.p 0 0] [(0,fmB v 1),(1,fmT L)] [] true (.tup [.d (.agg [.int .i64 v,.slice (L.map D.ints)]),.d (.bool true)]) []:=by
 have c1:=isCnf_ok v L (by omega) hx
 rw [hok] at c1
 refine CtrR.eq ?_
 refine CtrR.ofO (n:=19) (rs:=[.cell 2 27,.tmp 3]) Tryz.func48 rfl rfl Tryz.ntmps48 rfl rfl (by kernel_rfl) Tryz.checked.mixed ?_; intro u
 refine Ok.weak (Wk.data (j:=1) rfl rfl) ?_
 refine Ok.go ?_
 simp (disch:=first | omega | decide +kernel) only [D.ints,go_sem,Qa,Qb,Qc,Qd,Qe,↓reduceIte,reduceCtorEq,Qf,Qg,Qh]
 (repeat' (first | ((first | (refine gsel_split (fun q' => ?_) (fun q' => ?_)<;>(have h':=q')<;>(try simp only [za1,za2,Ba,Bb,za3,ne_eq,za4,za5,za6,Ia,Ib,Ic,Ie,Da,Bc,Bd,Be,za7,za8] at h')) | (have q':=trivial; first | refine callX_new (c1) rfl (by decide) ?_ | refine callY_new (c1) rfl ?_ | refine hE _ _ ret_ne ?_ | refine hE _ _ exit_ne ?_))<;>(try simp (disch:=first | omega | decide +kernel) only [q',D.ints,go_sem,Qa,Qb,Qc,Qd,Qe,↓reduceIte,reduceCtorEq,Qf,Qg,Qh])<;>clear q') | refine hN _ ?_ ?_ Wk.kk | with_reducible refine And.intro ?_ ?_ | with_reducible omega | exact ok_ints | exact cells_ints | exact no_mem | with_reducible exact plain_ints | (refine le_maxLen ?_; omega) | (refine za9 ⟨?_,?_⟩) | (simp only [go_sem,Qc,Qb,zb1,zb2,forall_eq]; done)))
 all_goals exact ⟨_,_,⟨rfl,rfl⟩,retM_cbd rfl rfl rfl (by simp only [go_sem]) (by simp only [go_sem,List.length_cons,List.length_nil]) rfl (by simp only [go_sem])⟩

def cnfI (n : Nat) : List (List Int):=pJ mustI n n
theorem pvar_eq (n i j : Nat) : pvar n (i + 1) j=(i : Int) * n + j:=by
 unfold pvar
 rw [show ((i + 1 : Nat) : Int) - 1=i by omega]
theorem nn_bd {n i : Nat} (hn : n<=3) (hi : i<=4) : 0<=(i : Int) * n∧(i : Int) * n<=12:=by
 rcases (by omega : n=0∨n=1∨n=2∨n=3) with rfl | rfl | rfl | rfl<;>rcases (by omega : i=0∨i=1∨i=2∨i=3∨i=4) with rfl | rfl | rfl | rfl | rfl<;>decide
set_option maxHeartbeats 8000000 in
theorem pigeonhole_ok (n : Nat) (hn : n<=3) (hok : okCnf (((n + 1 : Nat) : Int) * n) (cnfI n)=true) (hx : ∀ j,((cnfI n).getD j []).length<=4294967296) : Ctr Tryz.prog 13 [.int .i64 ((n + 1 : Nat) : Int),.int .i64 (n : Int)] true (.tup [.d (.agg [.int .i64 (((n + 1 : Nat) : Int) * n),.slice ((cnfI n).map D.ints)]),.d (.bool true)]) []:=by
 have hnn:=nn_bd (n:=n) (i:=n + 1) hn (by omega)
 have c1:=within_ok ((n + 1 : Nat) : Int) 0 12
 have c2:=within_ok (n : Int) 0 12
 rw [show (decide ((0 : Int)<=((n + 1 : Nat) : Int)) && decide (((n + 1 : Nat) : Int)<=12))=true by simp; omega] at c1
 rw [show (decide ((0 : Int)<=(n : Int)) && decide ((n : Int)<=12))=true by simp; omega] at c2
 have cA:=fun L xs h1 h2 => famAdd_ok (((n + 1 : Nat) : Int) * n) L xs h1 h2
 have cC:=famCnf_ok (((n + 1 : Nat) : Int) * n) (cnfI n) hok (by have:=pJ_len mustI hn n; unfold cnfI; omega) hx
 clear hok hx
 generalize hV : ((n + 1 : Nat) : Int) * n=V at *
 refine Ctr.of (n:=84) (rs:=[.cell 4 27,.tmp 5]) Tryz.func13 rfl rfl Tryz.ntmps13 rfl rfl (by kernel_rfl) Tryz.checked.mixed ?_
 simp (disch:=first | omega | decide +kernel) only [hV,go_sem,Qa,Qb,Qc,Qd,Qe,↓reduceIte,reduceCtorEq,Qf,Qg,Qh]
 (repeat' (first | ((first | (refine gsel_split (fun q' => ?_) (fun q' => ?_)<;>(have h':=q')<;>(try simp only [za1,za2,Ba,Bb,za3,ne_eq,za4,za5,za6,Ia,Ib,Ic,Ie,Da,Bc,Bd,Be,za7,za8] at h')) | (have q':=trivial; first | refine callX_new (c1) rfl (by decide) ?_ | refine callY_new (c1) rfl ?_ | refine callX_new (c2) rfl (by decide) ?_ | refine callY_new (c2) rfl ?_ | refine hE _ _ ret_ne ?_ | refine hE _ _ exit_ne ?_))<;>(try simp (disch:=first | omega | decide +kernel) only [q',hV,go_sem,Qa,Qb,Qc,Qd,Qe,↓reduceIte,reduceCtorEq,Qf,Qg,Qh])<;>clear q') | refine hN _ ?_ ?_ Wk.kk | with_reducible refine And.intro ?_ ?_ | with_reducible omega | exact ok_ints | exact cells_ints | exact no_mem | with_reducible exact plain_ints | (refine le_maxLen ?_; omega) | (refine za9 ⟨?_,?_⟩) | (simp only [go_sem,Qc,Qb,zb1,zb2,forall_eq]; done)))
 refine Ok.loopNO [83,82,81,80,79,78,77,76,75,74,73,72,71,70,69,68,67,66,65,64,63,62,61,60,59,58,57,56,55,54,53,52,51,50,49,48,47,46,45,44,43,42,41,40,39,38,37,36,35,34,33,32,31,30,29,28,26,25,24,23,22,21,20,19,18,17,16,15,14,13,12,11,10,9,8,7,3,2] (fun i _ => [(28,.d (.int .i64 (i : Nat)))]) (fun _ (L : List (List Int)) => [(26,fmB V 800000001),(800000001,fmT L)]) (n + 1)
  (fun i L => L=pA mustI n i) [] rfl ((Wk.nilObj 800000001 26 1 rfl rfl (by simp) (by decide) (e:=41) (k:=1) (by decide)).trans ((Wk.deep 800000001 (by simp (disch:=first | omega | decide +kernel) only [setL,go_sem,Qa,Qb,Qc,Qd,Qe,↓reduceIte,reduceCtorEq,Qf,Qg,Qh]; rfl) (by simp [flat])).trans (by refine Wk.auto ?_ ?_<;>simp [extraK,lk,killL,St.kill,wipeO,wipeS,AV.has,AV.hasL,AO.wipe,List.map_set,updSt,insL,dropS,ins,setL]))) ?_
 rintro R i L hN hE hi hL
 have hll : L.length=i:=by rw [hL,pA_len]
 by_cases hlt : i < n + 1
 . have hs : pA mustI n (i + 1)=L++[mustI (pRow n (i + 1) n)]:=by rw [pA,← hL]
   have hin:=nn_bd (n:=n) (i:=i) hn (by omega)
   refine Ok.seq (Ok.go ?_)
   simp (disch:=first | omega | decide +kernel) only [go_sem,Qa,Qb,Qc,Qd,Qe,↓reduceIte,reduceCtorEq,Qf,Qg,Qh]
   refine Ok.seq (Ok.go ?_)
   simp (disch:=first | omega | decide +kernel) only [go_sem,Qa,Qb,Qc,Qd,Qe,↓reduceIte,reduceCtorEq,Qf,Qg,Qh]
   (repeat' (first | ((first | (refine gsel_split (fun q' => ?_) (fun q' => ?_)<;>(have h':=q')<;>(try simp only [za1,za2,Ba,Bb,za3,ne_eq,za4,za5,za6,Ia,Ib,Ic,Ie,Da,Bc,Bd,Be,za7,za8] at h')<;>try (exfalso; omega)) | (have q':=trivial; first | refine hE _ _ ret_ne ?_ | refine hE _ _ exit_ne ?_))<;>(try simp (disch:=first | omega | decide +kernel) only [q',go_sem,Qa,Qb,Qc,Qd,Qe,↓reduceIte,reduceCtorEq,Qf,Qg,Qh])<;>clear q') | refine hN _ ?_ ?_ Wk.kk | with_reducible refine And.intro ?_ ?_ | with_reducible omega | exact ok_ints | exact cells_ints | exact no_mem | with_reducible exact plain_ints | (refine le_maxLen ?_; omega) | (refine za9 ⟨?_,?_⟩) | (simp only [go_sem,Qc,Qb,zb1,zb2,forall_eq]; done)))
   refine Ok.seq (Ok.block (Ok.seq (Ok.go ?_)))
   simp (disch:=first | omega | decide +kernel) only [go_sem,Qa,Qb,Qc,Qd,Qe,↓reduceIte,reduceCtorEq,Qf,Qg,Qh]
   refine Ok.seq (Ok.go ?_)
   simp (disch:=first | omega | decide +kernel) only [go_sem,Qa,Qb,Qc,Qd,Qe,↓reduceIte,reduceCtorEq,Qf,Qg,Qh]
   refine Ok.seq (Ok.go ?_)
   simp (disch:=first | omega | decide +kernel) only [go_sem,Qa,Qb,Qc,Qd,Qe,↓reduceIte,reduceCtorEq,Qf,Qg,Qh]
   refine Ok.loopN [83,82,81,80,79,78,77,76,75,74,73,72,71,70,69,68,67,66,65,64,63,62,61,60,59,58,57,56,55,54,53,52,51,50,49,48,47,46,45,44,43,42,41,40,39,38,37,36,35,34,33,32,31,30,29,26,25,24,23,22,21,20,19,18,17,16,15,14,13,12,11,10,9,8,3,2] (fun j _ => [(9,.d (.int .i64 (1 + (j : Nat)))),(8,.sl 8)]) (fun _ (c : List Int) => [(8,.arr 3 1 (c.map (.int .i64)))]) n
    (fun j c => c=pRow n (i + 1) j) [] rfl (Wk.kk) ?_
   rintro R2 j c hN2 hE2 hj hc
   have hcl : c.length=j:=by rw [hc,pRow_len]
   by_cases hlt2 : j < n
   . have hs2 : pRow n (i + 1) (j + 1)=c++[(i : Int) * n + (1 + j)]:=by rw [pRow,← hc,pvar_eq]; congr 2; omega
     clear cA cC c1 c2
     generalize hP : (i : Int) * n=P0 at *
     simp (disch:=first | omega | decide +kernel) only [hP,go_sem,Qa,Qb,Qc,Qd,Qe,↓reduceIte,reduceCtorEq,Qf,Qg,Qh]
     (repeat' (first | ((first | (refine gsel_split (fun q' => ?_) (fun q' => ?_)<;>(have h':=q')<;>(try simp only [za1,za2,Ba,Bb,za3,ne_eq,za4,za5,za6,Ia,Ib,Ic,Ie,Da,Bc,Bd,Be,za7,za8] at h')<;>try (exfalso; omega)) | (have q':=trivial; first | refine hE _ _ ret_ne ?_ | refine hE _ _ exit_ne ?_))<;>(try simp (disch:=first | omega | decide +kernel) only [q',hP,go_sem,Qa,Qb,Qc,Qd,Qe,↓reduceIte,reduceCtorEq,Qf,Qg,Qh])<;>clear q') | refine hN _ ?_ ?_ Wk.kk | with_reducible refine And.intro ?_ ?_ | with_reducible omega | exact ok_ints | exact cells_ints | exact no_mem | with_reducible exact plain_ints | (refine le_maxLen ?_; omega) | (refine za9 ⟨?_,?_⟩) | (simp only [go_sem,Qc,Qb,zb1,zb2,forall_eq]; done)))
     refine hN2 (c++[P0 + (1 + j)]) _ hlt2 hs2.symm (by refine Wk.auto ?_ ?_<;>simp [extraK,lk,killL,St.kill,wipeO,wipeS,AV.has,AV.hasL,AO.wipe,List.map_set,updSt,insL,dropS,ins,List.map_append,List.map_cons,List.map_nil,Int.add_assoc])
   . obtain rfl : j=n:=by omega
     have cB:=cA L c (by omega) (by omega)
     simp (disch:=first | omega | decide +kernel) only [go_sem,Qa,Qb,Qc,Qd,Qe,↓reduceIte,reduceCtorEq,Qf,Qg,Qh]
     (repeat' (first | ((first | (refine gsel_split (fun q' => ?_) (fun q' => ?_)<;>(have h':=q')<;>(try simp only [za1,za2,Ba,Bb,za3,ne_eq,za4,za5,za6,Ia,Ib,Ic,Ie,Da,Bc,Bd,Be,za7,za8] at h')<;>try (exfalso; omega)) | (have q':=trivial; first | refine hE _ _ ret_ne ?_ | refine hE _ _ exit_ne ?_))<;>(try simp (disch:=first | omega | decide +kernel) only [q',go_sem,Qa,Qb,Qc,Qd,Qe,↓reduceIte,reduceCtorEq,Qf,Qg,Qh])<;>clear q') | refine hN _ ?_ ?_ Wk.kk | with_reducible refine And.intro ?_ ?_ | with_reducible omega | exact ok_ints | exact cells_ints | exact no_mem | with_reducible exact plain_ints | (refine le_maxLen ?_; omega) | (refine za9 ⟨?_,?_⟩) | (simp only [go_sem,Qc,Qb,zb1,zb2,forall_eq]; done)))
     refine hE2 _ _ exit_ne ?_
     simp (disch:=first | omega | decide +kernel) only [go_sem,Qa,Qb,Qc,Qd,Qe,↓reduceIte,reduceCtorEq,Qf,Qg,Qh]
     refine Ok.weak (Wk.frz (j:=8) rfl) ?_
     refine Ok.go ?_
     simp (disch:=first | omega | decide +kernel) only [go_sem,Qa,Qb,Qc,Qd,Qe,↓reduceIte,reduceCtorEq,Qf,Qg,Qh]
     refine callX_mut [26,800000001] [26,800000001] [800000001] cB ⟨.inl rfl,.inl rfl,trivial⟩ ⟨rfl,rfl,trivial⟩ rfl (by simp [dstB]) ?_
     simp (disch:=first | omega | decide +kernel) only [go_sem,Qa,Qb,Qc,Qd,Qe,↓reduceIte,reduceCtorEq,Qf,Qg,Qh]
     refine Ok.go ?_
     simp (disch:=first | omega | decide +kernel) only [go_sem,Qa,Qb,Qc,Qd,Qe,↓reduceIte,reduceCtorEq,Qf,Qg,Qh]
     refine hN (L++[mustI (pRow j (i + 1) j)]) _ hlt hs.symm ?_
     rw [← hc]
     exact (by refine Wk.auto ?_ ?_<;>simp [extraK,lk,killL,St.kill,wipeO,wipeS,AV.has,AV.hasL,AO.wipe,List.map_set,updSt,insL,dropS,ins,List.map_append,List.map_cons,List.map_nil,Int.add_assoc,D.ints])
 . obtain rfl : i=n + 1:=by omega
   refine Ok.go ?_
   simp (disch:=first | omega | decide +kernel) only [go_sem,Qa,Qb,Qc,Qd,Qe,↓reduceIte,reduceCtorEq,Qf,Qg,Qh]
   (repeat' (first | ((first | (refine gsel_split (fun q' => ?_) (fun q' => ?_)<;>(have h':=q')<;>(try simp only [za1,za2,Ba,Bb,za3,ne_eq,za4,za5,za6,Ia,Ib,Ic,Ie,Da,Bc,Bd,Be,za7,za8] at h')<;>try (exfalso; omega)) | (have q':=trivial; first | refine hE _ _ ret_ne ?_ | refine hE _ _ exit_ne ?_))<;>(try simp (disch:=first | omega | decide +kernel) only [q',go_sem,Qa,Qb,Qc,Qd,Qe,↓reduceIte,reduceCtorEq,Qf,Qg,Qh])<;>clear q') | refine hN _ ?_ ?_ Wk.kk | with_reducible refine And.intro ?_ ?_ | with_reducible omega | exact ok_ints | exact cells_ints | exact no_mem | with_reducible exact plain_ints | (refine le_maxLen ?_; omega) | (refine za9 ⟨?_,?_⟩) | (simp only [go_sem,Qc,Qb,zb1,zb2,forall_eq]; done)))
   refine Ok.loopN [83,82,81,80,79,78,77,76,75,74,73,72,71,70,69,68,67,66,65,64,63,62,61,60,59,58,57,56,55,54,53,52,51,50,49,48,47,46,45,44,43,42,41,40,39,38,37,36,35,34,33,32,31,30,29,28,27,26,25,24,23,22,21,20,19,18,17,16,15,14,13,12,11,10,9,8,7,3,2] (fun j _ => [(10,.d (.int .i64 (1 + (j : Nat))))]) (fun _ (L : List (List Int)) => [(26,fmB V 800000001),(800000001,fmT L)]) n
    (fun j L => L=pJ mustI n j) L (by rw [hL]; rfl) (Wk.kk) ?_
   rintro R1 j L1 hN1 hE1 hj hL1
   have hl1:=pJ_len mustI hn j
   rw [← hL1] at hl1
   by_cases hlt1 : j < n
   . have hsJ : pJ mustI n (j + 1)=pI mustI n (j + 1) L1 (n + 1):=by rw [pJ,← hL1]
     simp (disch:=first | omega | decide +kernel) only [go_sem,Qa,Qb,Qc,Qd,Qe,↓reduceIte,reduceCtorEq,Qf,Qg,Qh]
     (repeat' (first | ((first | (refine gsel_split (fun q' => ?_) (fun q' => ?_)<;>(have h':=q')<;>(try simp only [za1,za2,Ba,Bb,za3,ne_eq,za4,za5,za6,Ia,Ib,Ic,Ie,Da,Bc,Bd,Be,za7,za8] at h')<;>try (exfalso; omega)) | (have q':=trivial; first | refine hE _ _ ret_ne ?_ | refine hE _ _ exit_ne ?_))<;>(try simp (disch:=first | omega | decide +kernel) only [q',go_sem,Qa,Qb,Qc,Qd,Qe,↓reduceIte,reduceCtorEq,Qf,Qg,Qh])<;>clear q') | refine hN _ ?_ ?_ Wk.kk | with_reducible refine And.intro ?_ ?_ | with_reducible omega | exact ok_ints | exact cells_ints | exact no_mem | with_reducible exact plain_ints | (refine le_maxLen ?_; omega) | (refine za9 ⟨?_,?_⟩) | (simp only [go_sem,Qc,Qb,zb1,zb2,forall_eq]; done)))
     refine Ok.loopN [83,82,81,80,79,78,77,76,75,74,73,72,71,70,69,68,67,66,65,64,63,62,61,60,59,58,57,56,55,54,52,51,50,49,48,47,46,45,44,43,42,41,40,39,38,37,36,35,34,33,32,31,30,29,28,27,26,25,24,23,22,21,20,19,18,17,16,15,14,13,12,11,9,8,7,3,2] (fun i _ => [(54,.d (.int .i64 (i : Nat)))]) (fun _ (L : List (List Int)) => [(26,fmB V 800000001),(800000001,fmT L)]) (n + 1)
      (fun i L => L=pI mustI n (j + 1) L1 i) L1 rfl (Wk.kk) ?_
     rintro R2 i L2 hN2 hE2 hi2 hL2
     have hl2:=pI_len mustI hn (j + 1) L1 i
     rw [← hL2] at hl2
     by_cases hlt2 : i < n + 1
     . have hsI : pI mustI n (j + 1) L1 (i + 1)=pK mustI n (j + 1) (i + 1) L2 (n - i):=by rw [pI,← hL2]
       have hin:=nn_bd (n:=n) (i:=i) hn (by omega)
       simp (disch:=first | omega | decide +kernel) only [go_sem,Qa,Qb,Qc,Qd,Qe,↓reduceIte,reduceCtorEq,Qf,Qg,Qh]
       (repeat' (first | ((first | (refine gsel_split (fun q' => ?_) (fun q' => ?_)<;>(have h':=q')<;>(try simp only [za1,za2,Ba,Bb,za3,ne_eq,za4,za5,za6,Ia,Ib,Ic,Ie,Da,Bc,Bd,Be,za7,za8] at h')<;>try (exfalso; omega)) | (have q':=trivial; first | refine hE _ _ ret_ne ?_ | refine hE _ _ exit_ne ?_))<;>(try simp (disch:=first | omega | decide +kernel) only [q',go_sem,Qa,Qb,Qc,Qd,Qe,↓reduceIte,reduceCtorEq,Qf,Qg,Qh])<;>clear q') | refine hN _ ?_ ?_ Wk.kk | with_reducible refine And.intro ?_ ?_ | with_reducible omega | exact ok_ints | exact cells_ints | exact no_mem | with_reducible exact plain_ints | (refine le_maxLen ?_; omega) | (refine za9 ⟨?_,?_⟩) | (simp only [go_sem,Qc,Qb,zb1,zb2,forall_eq]; done)))
       refine Ok.loopN [83,82,81,80,79,78,77,76,75,74,73,72,71,70,69,68,67,66,65,64,63,62,61,60,59,58,57,56,55,52,51,50,49,48,47,46,45,44,43,42,41,40,39,38,37,36,35,34,33,32,31,30,29,28,27,26,25,24,23,22,21,20,19,18,17,16,15,14,13,12,9,8,7,3,2] (fun k _ => [(12,.d (.int .i64 ((i : Nat) + 1 + (k : Nat))))]) (fun _ (L : List (List Int)) => [(26,fmB V 800000001),(800000001,fmT L)]) (n - i)
        (fun k L => L=pK mustI n (j + 1) (i + 1) L2 k) L2 rfl (Wk.kk) ?_
       rintro R3 k L3 hN3 hE3 hk hL3
       have hl3:=pK_len mustI n (j + 1) (i + 1) L2 k
       rw [← hL3] at hl3
       by_cases hlt3 : k < n - i
       . have hkn:=nn_bd (n:=n) (i:=i + 1 + k) hn (by omega)
         have hs3 : pK mustI n (j + 1) (i + 1) L2 (k + 1)=L3++[mustI [0 - ((i : Int) * n + (1 + j)),0 - (((i + 1 + k : Nat) : Int) * n + (1 + j))]]:=by
          rw [pK,← hL3,pvar_eq,show i + 1 + 1 + k=(i + 1 + k) + 1 by omega,pvar_eq]
          have e : ∀ x : Int,-(x + ((j + 1 : Nat) : Int))=0 - (x + (1 + j)):=fun x => by omega
          rw [e,e]
         rw [show ((i + 1 + k : Nat) : Int)=(i : Int) + 1 + k by omega] at hs3 hkn
         have cB:=fun xs h => cA L3 xs h (by omega)
         clear cA cC c1 c2
         generalize hP : (i : Int) * n=P0 at *
         generalize hP' : ((i : Int) + 1 + k) * n=P1 at *
         have cB:=cB [0 - (P0 + (1 + j)),0 - (P1 + (1 + j))] (by simp)
         simp only [D.ints,List.map_cons,List.map_nil] at cB
         simp (disch:=first | omega | decide +kernel) only [hP,hP',go_sem,Qa,Qb,Qc,Qd,Qe,↓reduceIte,reduceCtorEq,Qf,Qg,Qh]
         (repeat' (first | ((first | (refine gsel_split (fun q' => ?_) (fun q' => ?_)<;>(have h':=q')<;>(try simp only [za1,za2,Ba,Bb,za3,ne_eq,za4,za5,za6,Ia,Ib,Ic,Ie,Da,Bc,Bd,Be,za7,za8] at h')<;>try (exfalso; omega)) | (have q':=trivial; first | refine hE _ _ ret_ne ?_ | refine hE _ _ exit_ne ?_))<;>(try simp (disch:=first | omega | decide +kernel) only [q',hP,hP',go_sem,Qa,Qb,Qc,Qd,Qe,↓reduceIte,reduceCtorEq,Qf,Qg,Qh])<;>clear q') | refine hN _ ?_ ?_ Wk.kk | with_reducible refine And.intro ?_ ?_ | with_reducible omega | exact ok_ints | exact cells_ints | exact no_mem | with_reducible exact plain_ints | (refine le_maxLen ?_; omega) | (refine za9 ⟨?_,?_⟩) | (simp only [go_sem,Qc,Qb,zb1,zb2,forall_eq]; done)))
         refine callX_mut [26,800000001] [26,800000001] [800000001] cB ⟨.inl rfl,.inr ⟨rfl,_,rfl,rfl⟩,trivial⟩ ⟨rfl,rfl,trivial⟩ rfl (by simp [dstB]) ?_
         simp (disch:=first | omega | decide +kernel) only [go_sem,Qa,Qb,Qc,Qd,Qe,↓reduceIte,reduceCtorEq,Qf,Qg,Qh]
         refine hN3 (L3++[mustI [0 - (P0 + (1 + j)),0 - (P1 + (1 + j))]]) _ hlt3 hs3.symm (by refine Wk.auto ?_ ?_<;>simp [extraK,lk,killL,St.kill,wipeO,wipeS,AV.has,AV.hasL,AO.wipe,List.map_set,updSt,insL,dropS,ins,List.map_append,List.map_cons,List.map_nil,Int.add_assoc,D.ints])
       . obtain rfl : k=n - i:=by omega
         simp (disch:=first | omega | decide +kernel) only [go_sem,Qa,Qb,Qc,Qd,Qe,↓reduceIte,reduceCtorEq,Qf,Qg,Qh]
         (repeat' (first | ((first | (refine gsel_split (fun q' => ?_) (fun q' => ?_)<;>(have h':=q')<;>(try simp only [za1,za2,Ba,Bb,za3,ne_eq,za4,za5,za6,Ia,Ib,Ic,Ie,Da,Bc,Bd,Be,za7,za8] at h')<;>try (exfalso; omega)) | (have q':=trivial; first | refine hE _ _ ret_ne ?_ | refine hE _ _ exit_ne ?_))<;>(try simp (disch:=first | omega | decide +kernel) only [q',go_sem,Qa,Qb,Qc,Qd,Qe,↓reduceIte,reduceCtorEq,Qf,Qg,Qh])<;>clear q') | refine hN _ ?_ ?_ Wk.kk | with_reducible refine And.intro ?_ ?_ | with_reducible omega | exact ok_ints | exact cells_ints | exact no_mem | with_reducible exact plain_ints | (refine le_maxLen ?_; omega) | (refine za9 ⟨?_,?_⟩) | (simp only [go_sem,Qc,Qb,zb1,zb2,forall_eq]; done)))
         refine hE3 _ _ exit_ne ?_
         simp (disch:=first | omega | decide +kernel) only [go_sem,Qa,Qb,Qc,Qd,Qe,↓reduceIte,reduceCtorEq,Qf,Qg,Qh]
         (repeat' (first | ((first | (refine gsel_split (fun q' => ?_) (fun q' => ?_)<;>(have h':=q')<;>(try simp only [za1,za2,Ba,Bb,za3,ne_eq,za4,za5,za6,Ia,Ib,Ic,Ie,Da,Bc,Bd,Be,za7,za8] at h')<;>try (exfalso; omega)) | (have q':=trivial; first | refine hE _ _ ret_ne ?_ | refine hE _ _ exit_ne ?_))<;>(try simp (disch:=first | omega | decide +kernel) only [q',go_sem,Qa,Qb,Qc,Qd,Qe,↓reduceIte,reduceCtorEq,Qf,Qg,Qh])<;>clear q') | refine hN _ ?_ ?_ Wk.kk | with_reducible refine And.intro ?_ ?_ | with_reducible omega | exact ok_ints | exact cells_ints | exact no_mem | with_reducible exact plain_ints | (refine le_maxLen ?_; omega) | (refine za9 ⟨?_,?_⟩) | (simp only [go_sem,Qc,Qb,zb1,zb2,forall_eq]; done)))
         refine hN2 L3 _ hlt2 (by rw [hsI,hL3]) (by refine Wk.auto ?_ ?_<;>simp [extraK,lk,killL,St.kill,wipeO,wipeS,AV.has,AV.hasL,AO.wipe,List.map_set,updSt,insL,dropS,ins,Int.add_assoc])
     . obtain rfl : i=n + 1:=by omega
       simp (disch:=first | omega | decide +kernel) only [go_sem,Qa,Qb,Qc,Qd,Qe,↓reduceIte,reduceCtorEq,Qf,Qg,Qh]
       (repeat' (first | ((first | (refine gsel_split (fun q' => ?_) (fun q' => ?_)<;>(have h':=q')<;>(try simp only [za1,za2,Ba,Bb,za3,ne_eq,za4,za5,za6,Ia,Ib,Ic,Ie,Da,Bc,Bd,Be,za7,za8] at h')<;>try (exfalso; omega)) | (have q':=trivial; first | refine hE _ _ ret_ne ?_ | refine hE _ _ exit_ne ?_))<;>(try simp (disch:=first | omega | decide +kernel) only [q',go_sem,Qa,Qb,Qc,Qd,Qe,↓reduceIte,reduceCtorEq,Qf,Qg,Qh])<;>clear q') | refine hN _ ?_ ?_ Wk.kk | with_reducible refine And.intro ?_ ?_ | with_reducible omega | exact ok_ints | exact cells_ints | exact no_mem | with_reducible exact plain_ints | (refine le_maxLen ?_; omega) | (refine za9 ⟨?_,?_⟩) | (simp only [go_sem,Qc,Qb,zb1,zb2,forall_eq]; done)))
       refine hE2 _ _ exit_ne ?_
       simp (disch:=first | omega | decide +kernel) only [go_sem,Qa,Qb,Qc,Qd,Qe,↓reduceIte,reduceCtorEq,Qf,Qg,Qh]
       (repeat' (first | ((first | (refine gsel_split (fun q' => ?_) (fun q' => ?_)<;>(have h':=q')<;>(try simp only [za1,za2,Ba,Bb,za3,ne_eq,za4,za5,za6,Ia,Ib,Ic,Ie,Da,Bc,Bd,Be,za7,za8] at h')<;>try (exfalso; omega)) | (have q':=trivial; first | refine hE _ _ ret_ne ?_ | refine hE _ _ exit_ne ?_))<;>(try simp (disch:=first | omega | decide +kernel) only [q',go_sem,Qa,Qb,Qc,Qd,Qe,↓reduceIte,reduceCtorEq,Qf,Qg,Qh])<;>clear q') | refine hN _ ?_ ?_ Wk.kk | with_reducible refine And.intro ?_ ?_ | with_reducible omega | exact ok_ints | exact cells_ints | exact no_mem | with_reducible exact plain_ints | (refine le_maxLen ?_; omega) | (refine za9 ⟨?_,?_⟩) | (simp only [go_sem,Qc,Qb,zb1,zb2,forall_eq]; done)))
       refine hN1 L2 _ hlt1 (by rw [hsJ,hL2]) (by refine Wk.auto ?_ ?_<;>simp [extraK,lk,killL,St.kill,wipeO,wipeS,AV.has,AV.hasL,AO.wipe,List.map_set,updSt,insL,dropS,ins,Int.add_assoc])
   . obtain rfl : j=n:=by omega
     rw [show L1=cnfI j from hL1]
     simp (disch:=first | omega | decide +kernel) only [go_sem,Qa,Qb,Qc,Qd,Qe,↓reduceIte,reduceCtorEq,Qf,Qg,Qh]
     (repeat' (first | ((first | (refine gsel_split (fun q' => ?_) (fun q' => ?_)<;>(have h':=q')<;>(try simp only [za1,za2,Ba,Bb,za3,ne_eq,za4,za5,za6,Ia,Ib,Ic,Ie,Da,Bc,Bd,Be,za7,za8] at h')<;>try (exfalso; omega)) | (have q':=trivial; first | refine hE _ _ ret_ne ?_ | refine hE _ _ exit_ne ?_))<;>(try simp (disch:=first | omega | decide +kernel) only [q',go_sem,Qa,Qb,Qc,Qd,Qe,↓reduceIte,reduceCtorEq,Qf,Qg,Qh])<;>clear q') | refine hN _ ?_ ?_ Wk.kk | with_reducible refine And.intro ?_ ?_ | with_reducible omega | exact ok_ints | exact cells_ints | exact no_mem | with_reducible exact plain_ints | (refine le_maxLen ?_; omega) | (refine za9 ⟨?_,?_⟩) | (simp only [go_sem,Qc,Qb,zb1,zb2,forall_eq]; done)))
     refine hE1 _ _ exit_ne ?_
     simp (disch:=first | omega | decide +kernel) only [go_sem,Qa,Qb,Qc,Qd,Qe,↓reduceIte,reduceCtorEq,Qf,Qg,Qh]
     refine callX_mut [26,800000001] [] [26,800000001] cC ⟨.inl rfl,trivial⟩ ⟨rfl,rfl,trivial⟩ rfl (by simp [dstB]) ?_
     simp (disch:=first | omega | decide +kernel) only [go_sem,Qa,Qb,Qc,Qd,Qe,↓reduceIte,reduceCtorEq,Qf,Qg,Qh]
     (repeat' (first | ((first | (refine gsel_split (fun q' => ?_) (fun q' => ?_)<;>(have h':=q')<;>(try simp only [za1,za2,Ba,Bb,za3,ne_eq,za4,za5,za6,Ia,Ib,Ic,Ie,Da,Bc,Bd,Be,za7,za8] at h')<;>try (exfalso; omega)) | (have q':=trivial; first | refine hE _ _ ret_ne ?_ | refine hE _ _ exit_ne ?_))<;>(try simp (disch:=first | omega | decide +kernel) only [q',go_sem,Qa,Qb,Qc,Qd,Qe,↓reduceIte,reduceCtorEq,Qf,Qg,Qh])<;>clear q') | refine hN _ ?_ ?_ Wk.kk | with_reducible refine And.intro ?_ ?_ | with_reducible omega | exact ok_ints | exact cells_ints | exact no_mem | with_reducible exact plain_ints | (refine le_maxLen ?_; omega) | (refine za9 ⟨?_,?_⟩) | (simp only [go_sem,Qc,Qb,zb1,zb2,forall_eq]; done)))
     exact ret_scbd [] rfl rfl rfl (by simp only [go_sem]) (by simp only [go_sem,List.length_cons,List.length_nil]) rfl (by simp only [go_sem])
theorem holesOk_ok (n : Int) : Ctr Tryz.prog 35 [.int .i64 n] false (.d (.bool (decide (1<=n) && decide (n<=3)))) []:=by
 have c1:=within_ok n 1 3
 refine Ctr.of (n:=5) (rs:=[.tmp 2]) Tryz.func35 rfl rfl Tryz.ntmps35 rfl rfl (by kernel_rfl) Tryz.checked.mixed ?_
 simp (disch:=first | omega | decide +kernel) only [go_sem,Qa,Qb,Qc,Qd,Qe,↓reduceIte,reduceCtorEq,Qf,Qg,Qh]
 (repeat' (first | ((first | (refine gsel_split (fun q' => ?_) (fun q' => ?_)<;>(have h':=q')<;>(try simp only [za1,za2,Ba,Bb,za3,ne_eq,za4,za5,za6,Ia,Ib,Ic,Ie,Da,Bc,Bd,Be,za7,za8] at h')) | (have q':=trivial; first | refine callX_new (c1) rfl (by decide) ?_ | refine callY_new (c1) rfl ?_ | refine hE _ _ ret_ne ?_ | refine hE _ _ exit_ne ?_))<;>(try simp (disch:=first | omega | decide +kernel) only [q',go_sem,Qa,Qb,Qc,Qd,Qe,↓reduceIte,reduceCtorEq,Qf,Qg,Qh])<;>clear q') | refine hN _ ?_ ?_ Wk.kk | with_reducible refine And.intro ?_ ?_ | with_reducible omega | exact ok_ints | exact cells_ints | exact no_mem | with_reducible exact plain_ints | (refine le_maxLen ?_; omega) | (refine za9 ⟨?_,?_⟩) | (simp only [go_sem,Qc,Qb,zb1,zb2,forall_eq]; done)))
theorem l17Holes_ok (n : Int) : Ctr Tryz.prog 36 [.int .i64 n] false (.d (.bool (decide (1<=n) && decide (n<=3)))) []:=by
 have c1:=l1In_ok n 1 3
 refine Ctr.of (n:=5) (rs:=[.tmp 2]) Tryz.func36 rfl rfl Tryz.ntmps36 rfl rfl (by kernel_rfl) Tryz.checked.mixed ?_
 simp (disch:=first | omega | decide +kernel) only [go_sem,Qa,Qb,Qc,Qd,Qe,↓reduceIte,reduceCtorEq,Qf,Qg,Qh]
 (repeat' (first | ((first | (refine gsel_split (fun q' => ?_) (fun q' => ?_)<;>(have h':=q')<;>(try simp only [za1,za2,Ba,Bb,za3,ne_eq,za4,za5,za6,Ia,Ib,Ic,Ie,Da,Bc,Bd,Be,za7,za8] at h')) | (have q':=trivial; first | refine callX_new (c1) rfl (by decide) ?_ | refine callY_new (c1) rfl ?_ | refine hE _ _ ret_ne ?_ | refine hE _ _ exit_ne ?_))<;>(try simp (disch:=first | omega | decide +kernel) only [q',go_sem,Qa,Qb,Qc,Qd,Qe,↓reduceIte,reduceCtorEq,Qf,Qg,Qh])<;>clear q') | refine hN _ ?_ ?_ Wk.kk | with_reducible refine And.intro ?_ ?_ | with_reducible omega | exact ok_ints | exact cells_ints | exact no_mem | with_reducible exact plain_ints | (refine le_maxLen ?_; omega) | (refine za9 ⟨?_,?_⟩) | (simp only [go_sem,Qc,Qb,zb1,zb2,forall_eq]; done)))
theorem pigeonCnf_no (n : Int) (h : (decide (1<=n) && decide (n<=3))=false) : Ctr Tryz.prog 7 [.int .i64 n] true (.tup [.d (.agg [.int .i64 0,.slice []]),.d (.bool false)]) []:=by
 have c1:=holesOk_ok n
 rw [h] at c1
 refine Ctr.of (n:=14) (rs:=[.cell 2 27,.tmp 3]) Tryz.func7 rfl rfl Tryz.ntmps7 rfl rfl (by kernel_rfl) Tryz.checked.mixed ?_
 simp (disch:=first | omega | decide +kernel) only [go_sem,Qa,Qb,Qc,Qd,Qe,↓reduceIte,reduceCtorEq,Qf,Qg,Qh]
 (repeat' (first | ((first | (refine gsel_split (fun q' => ?_) (fun q' => ?_)<;>(have h':=q')<;>(try simp only [za1,za2,Ba,Bb,za3,ne_eq,za4,za5,za6,Ia,Ib,Ic,Ie,Da,Bc,Bd,Be,za7,za8] at h')) | (have q':=trivial; first | refine callX_new (c1) rfl (by decide) ?_ | refine callY_new (c1) rfl ?_ | refine hE _ _ ret_ne ?_ | refine hE _ _ exit_ne ?_))<;>(try simp (disch:=first | omega | decide +kernel) only [q',go_sem,Qa,Qb,Qc,Qd,Qe,↓reduceIte,reduceCtorEq,Qf,Qg,Qh])<;>clear q') | refine hN _ ?_ ?_ Wk.kk | with_reducible refine And.intro ?_ ?_ | with_reducible omega | exact ok_ints | exact cells_ints | exact no_mem | with_reducible exact plain_ints | (refine le_maxLen ?_; omega) | (refine za9 ⟨?_,?_⟩) | (simp only [go_sem,Qc,Qb,zb1,zb2,forall_eq]; done)))
 all_goals (first | exact ret_scbd [] rfl rfl rfl (by simp only [go_sem]) (by simp only [go_sem,List.length_cons,List.length_nil]) rfl (by simp only [go_sem]))
theorem pigeonCnf_ok (n : Nat) (hn : 1<=n∧n<=3) (hok : okCnf (((n + 1 : Nat) : Int) * n) (cnfI n)=true) (hx : ∀ j,((cnfI n).getD j []).length<=4294967296) : Ctr Tryz.prog 7 [.int .i64 (n : Int)] true (.tup [.d (.agg [.int .i64 (((n + 1 : Nat) : Int) * n),.slice ((cnfI n).map D.ints)]),.d (.bool true)]) []:=by
 have c1:=holesOk_ok n
 rw [show (decide ((1 : Int)<=(n : Int)) && decide ((n : Int)<=3))=true by simp; omega] at c1
 have c2:=pigeonhole_ok n (by omega) hok hx
 rw [show ((n + 1 : Nat) : Int)=(n : Int) + 1 by omega] at c2 ⊢
 refine Ctr.of (n:=14) (rs:=[.cell 2 27,.tmp 3]) Tryz.func7 rfl rfl Tryz.ntmps7 rfl rfl (by kernel_rfl) Tryz.checked.mixed ?_
 simp (disch:=first | omega | decide +kernel) only [go_sem,Qa,Qb,Qc,Qd,Qe,↓reduceIte,reduceCtorEq,Qf,Qg,Qh]
 (repeat' (first | ((first | (refine gsel_split (fun q' => ?_) (fun q' => ?_)<;>(have h':=q')<;>(try simp only [za1,za2,Ba,Bb,za3,ne_eq,za4,za5,za6,Ia,Ib,Ic,Ie,Da,Bc,Bd,Be,za7,za8] at h')) | (have q':=trivial; first | refine callX_new (c1) rfl (by decide) ?_ | refine callY_new (c1) rfl ?_ | refine callX_shared (c2) rfl (by decide) ?_ | refine callY_shared (c2) rfl ?_ | refine hE _ _ ret_ne ?_ | refine hE _ _ exit_ne ?_))<;>(try simp (disch:=first | omega | decide +kernel) only [q',go_sem,Qa,Qb,Qc,Qd,Qe,↓reduceIte,reduceCtorEq,Qf,Qg,Qh])<;>clear q') | refine hN _ ?_ ?_ Wk.kk | with_reducible refine And.intro ?_ ?_ | with_reducible omega | exact ok_ints | exact cells_ints | exact no_mem | with_reducible exact plain_ints | (refine le_maxLen ?_; omega) | (refine za9 ⟨?_,?_⟩) | (simp only [go_sem,Qc,Qb,zb1,zb2,forall_eq]; done)))
 all_goals (first | exact ret_scbd [] rfl rfl rfl (by simp only [go_sem]) (by simp only [go_sem,List.length_cons,List.length_nil]) rfl (by simp only [go_sem]))

theorem mustI_good {xs : List Int} (g : Good xs) : mustI xs=xs:=by
 have h:=clauseI_spec (xs:=xs) g.2
 unfold mustI
 cases hc : clauseI xs with
 | some c => exact good_uniq (h.1 c hc).1 g (h.1 c hc).2
 | none =>
   obtain ⟨x,h1,h2⟩:=h.2 hc
   exact (good_neg g h1 h2).elim
instance (xs : List Int) : Decidable (Good xs):=by unfold Good; infer_instance
theorem good_rows : ∀ n,n < 4->∀ i,i < n + 1->Good (pRow n (i + 1) n):=by decide +kernel
theorem good_pairs : ∀ n,n < 4->∀ j,j < n->∀ i,i < n + 1->∀ c,c < n - i->Good [-(pvar n (i + 1) (j + 1)),-(pvar n (i + 1 + 1 + c) (j + 1))]:=by decide +kernel
theorem pA_eq {n : Nat} (hn : n < 4) : ∀ i,i<=n + 1->pA mustI n i=pA id n i
 | 0,_ => rfl
 | i + 1,h => by rw [pA,pA,pA_eq hn i (by omega),mustI_good (good_rows n hn i (by omega))]; rfl
theorem pK_eq {n : Nat} (hn : n < 4) {j i : Nat} (hj : j < n) (hi : i < n + 1) (l : List (List Int)) : ∀ c,c<=n - i->pK mustI n (j + 1) (i + 1) l c=pK id n (j + 1) (i + 1) l c
 | 0,_ => rfl
 | c + 1,h => by rw [pK,pK,pK_eq hn hj hi l c (by omega),mustI_good (good_pairs n hn j hj i hi c (by omega))]; rfl
theorem pI_eq {n : Nat} (hn : n < 4) {j : Nat} (hj : j < n) (l : List (List Int)) : ∀ c,c<=n + 1->pI mustI n (j + 1) l c=pI id n (j + 1) l c
 | 0,_ => rfl
 | c + 1,h => by rw [pI,pI,pI_eq hn hj l c (by omega),pK_eq hn hj (by omega) _ _ (Nat.le_refl _)]
theorem pJ_eq {n : Nat} (hn : n < 4) : ∀ c,c<=n->pJ mustI n c=pJ id n c
 | 0,_ => by rw [pJ,pJ,pA_eq hn _ (Nat.le_refl _)]
 | c + 1,h => by rw [pJ,pJ,pJ_eq hn c (by omega),pI_eq hn (by omega) _ _ (Nat.le_refl _)]
theorem cnf_IS {n : Nat} (hn : n < 4) : cnfI n=cnfS n:=pJ_eq hn n (Nat.le_refl _)
theorem cnf_ok : ∀ n,n < 4->okCnf (((n + 1 : Nat) : Int) * n) (cnfS n)=true:=by decide +kernel
theorem cnf_small : ∀ n,n < 4->∀ x ∈ cnfS n,x.length<=3:=by decide +kernel
theorem getD_small {L : List (List Int)} {B : Nat} (h : ∀ x ∈ L,x.length<=B) (j : Nat) : (L.getD j []).length<=B:=by
 by_cases hj : j < L.length
 . exact h _ (getD_mem hj)
 . rw [List.getD_eq_getElem?_getD,List.getElem?_eq_none (by omega)]; simp
theorem pigeonCnfS_ok (n : Nat) (hn : 1<=n∧n<=3) : Ctr Tryz.prog 7 [.int .i64 (n : Int)] true (.tup [.d (.agg [.int .i64 ((n : Int) * (n + 1)),.slice ((cnfS n).map D.ints)]),.d (.bool true)]) []:=by
 have h:=pigeonCnf_ok n hn (by rw [cnf_IS (by omega)]; exact cnf_ok n (by omega)) (fun j => by rw [cnf_IS (by omega)]; have:=getD_small (cnf_small n (by omega)) j; omega)
 rw [cnf_IS (by omega),show ((n + 1 : Nat) : Int) * n=(n : Int) * (n + 1) by rw [Int.mul_comm]; rfl] at h
 exact h
end Abs.Y
