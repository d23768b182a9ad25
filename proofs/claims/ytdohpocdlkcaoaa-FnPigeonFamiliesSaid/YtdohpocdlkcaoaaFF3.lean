/- What functions of this program compute, over plain data. No condition. -/
import Derived.Test.YtdohpocdlkcaoaaFF1
import Derived.Test.YtdohpocdlkcaoaaAbsRow
import Derived.Test.YtdohpocdlkcaoaaAbsReg7
set_option linter.all false
namespace Abs.Y
open Go Go.Proofs Abs
open Nat renaming reduceEqDiff -> Qa, reduceLT -> Qb, reduceAdd -> Qc, reduceMul -> Qd, reduceSub -> Qe, reduceLeDiff -> Qf, reduceSubDiff -> Qg, reduceBEq -> Qh
open Bool renaming not_eq_true' -> Ba, not_eq_false' -> Bb, and_eq_true -> Bc, or_eq_true -> Bd, or_eq_false_iff -> Be
open Int renaming ofNat_lt -> Ia, ofNat_le -> Ib, not_lt -> Ic, not_le -> Ie
open Decidable renaming not_not -> Da
set_option maxRecDepth 100000

def mustI (xs : List Int) : List Int:=optL (clauseI xs)
theorem mustClause_ok (xs : List Int) (hl : xs.length<=1000) : Ctr Try.prog 120 [.ints xs] false (.sl 0) [(0,.arr 3 1 ((mustI xs).map (.int .i64)))]:=by
 have c1:=clause_ok xs (by omega)
 unfold mustI
 refine Ctr.of (n:=11) (rs:=[.tmp 2]) Try.func120 rfl rfl Try.ntmps120 rfl rfl (by kernel_rfl) Try.checked.mixed ?_
 simp (disch:=first | omega | decide +kernel) only [D.ints,go_sem,Qa,Qb,Qc,Qd,Qe,↓reduceIte,reduceCtorEq,Qf,Qg,Qh]
 (repeat' (first | ((first | (refine gsel_split (fun q' => ?_) (fun q' => ?_)<;>(have h':=q')<;>(try simp only [za1,za2,Ba,Bb,za3,ne_eq,za4,za5,za6,Ia,Ib,Ic,Ie,Da,Bc,Bd,Be,za7,za8] at h')) | (have q':=trivial; first | refine callX_new (c1) rfl (by decide) ?_ | refine callY_new (c1) rfl ?_ | refine hE _ _ ret_ne ?_ | refine hE _ _ exit_ne ?_))<;>(try simp (disch:=first | omega | decide +kernel) only [q',D.ints,go_sem,Qa,Qb,Qc,Qd,Qe,↓reduceIte,reduceCtorEq,Qf,Qg,Qh])<;>clear q') | refine hN _ ?_ ?_ Wk.kk | with_reducible refine And.intro ?_ ?_ | with_reducible omega | exact ok_ints | exact cells_ints | exact no_mem | with_reducible exact plain_ints | (refine le_maxLen ?_; omega) | (refine za9 ⟨?_,?_⟩) | (simp only [go_sem,Qc,Qb,zb1,zb2,forall_eq]; done)))
 all_goals (first | exact ret_sl _ rfl rfl plain_ints)
theorem retM_fam {P : Program} {u : Nat->Value} {st : St} {a b : AO} {k : Nat} (e : Exit) (he : e=.normal∨e=.ret) (h0 : lk 0 st.o=some (a.ren (nth [0,k]))) (h1 : lk k st.o=some (b.ren (nth [0,k]))) (hk : k ≠ 0) (hm : lk 1000000000 st.s=some (.hdr 0 (u 0))) (hp : plainO [(0,a),(1,b)]) : retM P [] u [0] false (.tup []) [(0,a),(1,b)] e st:=by
 have key : retM P [] u [0] false (.tup []) [(0,a),(1,b)] .ret st:=by
  simp only [retM,resV]
  refine ⟨trivial,⟨nth [0,k],rfl,?_,by simp [nth,hk,Ne.symm hk],⟨rfl,hm,trivial⟩⟩,.inr ⟨trivial,hp⟩⟩
  intro p hp
  simp only [List.mem_cons,List.not_mem_nil,or_false] at hp
  rcases hp with rfl | rfl
  . exact h0
  . exact h1
 rcases he with rfl | rfl<;>exact key
theorem retM_cstd {P : Program} {a j i u : Nat} {t e : TypeId} {cells cs' : List AV} {ob : AO} {y : D} {w : Nat->Value} {st : St} (h : lk a st.s=some (.p j 0)) (h' : lk u st.s=some (.d y)) (hj : lk j st.o=some (.box e cells)) (hag : aggT P t=true) (hn : P.cellsOf t=cells.length) (hd : allD cells=none)
 (hu : (P.underlying t).isSome=true) (hi : lk i st.o=some ob) (hc : cells=AV.renL (nth [i]) cs') (hp : AV.plainL cs') (hop : ob.plain) (hr : ∀ f,ob.ren f=ob) (hy : y.plain=true) :
 retM P [.cell a t,.tmp u] w [] false (.tup [.st cs',.d y]) [(0,ob)] .ret st:=by
 have hl : (lk a st.s).bind (loadV P st.o t)=some (0 + P.cellsOf t<=cells.length∧(P.underlying t).isSome=true,.st cells):=by
  rw [h,Option.bind_some,loadV,hj]
  simp only [hag,if_true,List.drop_zero,hn,List.take_length,hd]
 simp only [retM,resV,hl,h']
 refine ⟨⟨hu,⟨by omega,hu⟩,trivial⟩,⟨nth [i],by simp only [oneOf,AV.ren,AV.renL,hc],?_,?_,trivial⟩,.inr ⟨⟨hp,hy,trivial⟩,hop,trivial⟩⟩
 . intro p hp
   obtain rfl:=List.mem_singleton.1 hp
   rw [hr]; exact hi
 . intro p hp q hq _
   obtain rfl:=List.mem_singleton.1 hp
   obtain rfl:=List.mem_singleton.1 hq
   rfl
theorem ret_cstd1 {P : Program} {a j i u : Nat} {t e : TypeId} {cells cs' : List AV} {ob : AO} {y : D} {st : St} (h : lk a st.s=some (.p j 0)) (h' : lk u st.s=some (.d y)) (hj : lk j st.o=some (.box e cells)) (hag : aggT P t=true) (hn : P.cellsOf t=cells.length) (hd : allD cells=none)
 (hu : (P.underlying t).isSome=true) (hi : lk i st.o=some ob) (hc : cells=AV.renL (fun _ => i) cs') (hp : AV.plainL cs') (hop : ob.plain) (hr : ob.ren (fun _ => i)=ob) (hy : y.plain=true) :
 retQ P [.cell a t,.tmp u] false (.tup [.st cs',.d y]) [(0,ob)] .ret st:=by
 refine .inl ?_
 have hl : (lk a st.s).bind (loadV P st.o t)=some (0 + P.cellsOf t<=cells.length∧(P.underlying t).isSome=true,.st cells):=by
  rw [h,Option.bind_some,loadV,hj]
  simp only [hag,if_true,List.drop_zero,hn,List.take_length,hd]
 simp only [retO,resV,hl,h']
 exact ⟨⟨hu,⟨by omega,hu⟩,trivial⟩,.one i (by simp only [oneOf,AV.ren,AV.renL,hc]) (by rw [hr]; exact hi),.inr ⟨⟨hp,hy,trivial⟩,hop,trivial⟩⟩
@[reducible] def fmB (v : Int) (k : Nat) : AO:=.box 137 [.d (.int .i64 v),.sl k]
@[reducible] def fmT (L : List (List Int)) : AO:=.dp (some (38,1)) (L.map D.ints) none
set_option maxHeartbeats 4000000 in
theorem famAdd_ok (v : Int) (L : List (List Int)) (xs : List Int) (hl : xs.length<=1000) (hL : L.length<=1000) : CtrM Try.prog 198 [.p 0 0,.d (.ints xs)] [(0,fmB v 1),(1,fmT L)] [0] false (.tup []) [(0,fmB v 1),(1,fmT (L++[mustI xs]))]:=by
 have c1:=(mustClause_ok xs hl).deep (by rw [bare_ints]; trivial)
 refine CtrM.of (n:=15) (rs:=[]) Try.func198 rfl rfl Try.ntmps198 rfl rfl (by kernel_rfl) Try.checked.mixed ?_; intro u
 simp (disch:=first | omega | decide +kernel) only [D.ints,go_sem,Qa,Qb,Qc,Qd,Qe,↓reduceIte,reduceCtorEq,Qf,Qg,Qh]
 (repeat' (first | ((first | (refine gsel_split (fun q' => ?_) (fun q' => ?_)<;>(have h':=q')<;>(try simp only [za1,za2,Ba,Bb,za3,ne_eq,za4,za5,za6,Ia,Ib,Ic,Ie,Da,Bc,Bd,Be,za7,za8] at h')) | (have q':=trivial; first | refine callX_new (c1) rfl (by decide) ?_ | refine callY_new (c1) rfl ?_ | refine hE _ _ ret_ne ?_ | refine hE _ _ exit_ne ?_))<;>(try simp (disch:=first | omega | decide +kernel) only [q',D.ints,go_sem,Qa,Qb,Qc,Qd,Qe,↓reduceIte,reduceCtorEq,Qf,Qg,Qh])<;>clear q') | refine hN _ ?_ ?_ Wk.kk | with_reducible refine And.intro ?_ ?_ | with_reducible omega | exact ok_ints | exact cells_ints | exact no_mem | with_reducible exact plain_ints | (refine le_maxLen ?_; omega) | (refine za9 ⟨?_,?_⟩) | (simp only [go_sem,Qc,Qb,zb1,zb2,forall_eq]; done)))
 all_goals exact retM_fam (k:=1) _ (by first | exact .inl rfl | exact .inr rfl) rfl (by simp only [fmT,List.map_append]; rfl) (by decide) rfl (by simp [plainO,AO.plain,AV.plain,AV.plainL,D.plain])
set_option maxHeartbeats 4000000 in
theorem famCnf_own (v : Int) (L : List (List Int)) (hok : okCnf v L=true) (hL : L.length<=1000) (hx : ∀ j,(L.getD j []).length<=4294967296) : CtrM Try.prog 146 [.p 0 0] [(0,fmB v 1),(1,fmT L)] [] false (.tup [.st [.d (.int .i64 v),.sl 0],.d (.bool true)]) [(0,fmT L)]:=by
 have c1:=isCnf_ok v L (by omega) hx
 rw [hok] at c1
 refine CtrR.eq ?_
 refine CtrR.ofO (n:=19) (rs:=[.cell 2 29,.tmp 3]) Try.func146 rfl rfl Try.ntmps146 rfl rfl (by kernel_rfl) Try.checked.mixed ?_; intro u
 refine Ok.seq (Ok.go ?_)
 simp (disch:=first | omega | decide +kernel) only [go_sem,Qa,Qb,Qc,Qd,Qe,↓reduceIte,reduceCtorEq,Qf,Qg,Qh]
 refine Ok.seq (Ok.reg7 [true,true,true,true,true,true,true,true,true,false,false] (by decide +kernel) ?_)
 simp (disch:=first | omega | decide +kernel) only [D.ints,go_sem,Qa,Qb,Qc,Qd,Qe,↓reduceIte,reduceCtorEq,Qf,Qg,Qh]
 (repeat' (first | ((first | (refine gsel_split (fun q' => ?_) (fun q' => ?_)<;>(have h':=q')<;>(try simp only [za1,za2,Ba,Bb,za3,ne_eq,za4,za5,za6,Ia,Ib,Ic,Ie,Da,Bc,Bd,Be,za7,za8] at h')<;>try (exfalso; omega)) | (have q':=trivial; first | refine hE _ _ ret_ne ?_ | refine hE _ _ exit_ne ?_))<;>(try simp (disch:=first | omega | decide +kernel) only [q',D.ints,go_sem,Qa,Qb,Qc,Qd,Qe,↓reduceIte,reduceCtorEq,Qf,Qg,Qh])<;>clear q') | refine hN _ ?_ ?_ Wk.kk | with_reducible refine And.intro ?_ ?_ | with_reducible omega | exact ok_ints | exact cells_ints | exact no_mem | with_reducible exact plain_ints | (refine le_maxLen ?_; omega) | (refine za9 ⟨?_,?_⟩) | (simp only [go_sem,Qc,Qb,zb1,zb2,forall_eq]; done)))
 refine Ok.go ?_
 simp (disch:=first | omega | decide +kernel) only [D.ints,go_sem,Qa,Qb,Qc,Qd,Qe,↓reduceIte,reduceCtorEq,Qf,Qg,Qh]
 (repeat' (first | ((first | (refine gsel_split (fun q' => ?_) (fun q' => ?_)<;>(have h':=q')<;>(try simp only [za1,za2,Ba,Bb,za3,ne_eq,za4,za5,za6,Ia,Ib,Ic,Ie,Da,Bc,Bd,Be,za7,za8] at h')<;>try (exfalso; omega)) | (have q':=trivial; first | refine callX_new (c1) rfl (by decide) ?_ | refine callY_new (c1) rfl ?_ | refine hE _ _ ret_ne ?_ | refine hE _ _ exit_ne ?_))<;>(try simp (disch:=first | omega | decide +kernel) only [q',D.ints,go_sem,Qa,Qb,Qc,Qd,Qe,↓reduceIte,reduceCtorEq,Qf,Qg,Qh])<;>clear q') | refine hN _ ?_ ?_ Wk.kk | with_reducible refine And.intro ?_ ?_ | with_reducible omega | exact ok_ints | exact cells_ints | exact no_mem | with_reducible exact plain_ints | (refine le_maxLen ?_; omega) | (refine za9 ⟨?_,?_⟩) | (simp only [go_sem,Qc,Qb,zb1,zb2,forall_eq]; done)))
 all_goals exact ⟨_,_,⟨rfl,rfl⟩,retM_cstd rfl rfl rfl (by simp only [go_sem]) (by simp only [go_sem,List.length_cons,List.length_nil]) rfl (by simp only [go_sem]) rfl rfl ⟨rfl,trivial,trivial⟩ trivial (fun _ => rfl) rfl⟩

def cnfI (n : Nat) : List (List Int):=pJ mustI n n
theorem pvar_eq (n i j : Nat) : pvar n (i + 1) j=(i : Int) * n + j:=by
 unfold pvar
 rw [show ((i + 1 : Nat) : Int) - 1=i by omega]
theorem nn_bd {n i : Nat} (hn : n<=3) (hi : i<=4) : 0<=(i : Int) * n∧(i : Int) * n<=12:=by
 rcases (by omega : n=0∨n=1∨n=2∨n=3) with rfl | rfl | rfl | rfl<;>rcases (by omega : i=0∨i=1∨i=2∨i=3∨i=4) with rfl | rfl | rfl | rfl | rfl<;>decide
set_option maxHeartbeats 8000000 in
theorem pigeonhole_own (n : Nat) (hn : n<=3) (hok : okCnf (((n + 1 : Nat) : Int) * n) (cnfI n)=true) (hx : ∀ j,((cnfI n).getD j []).length<=4294967296) : Ctr Try.prog 131 [.int .i64 ((n + 1 : Nat) : Int),.int .i64 (n : Int)] false (.tup [.st [.d (.int .i64 (((n + 1 : Nat) : Int) * n)),.sl 0],.d (.bool true)]) [(0,fmT (cnfI n))]:=by
 have hnn:=nn_bd (n:=n) (i:=n + 1) hn (by omega)
 have c1:=within_ok ((n + 1 : Nat) : Int) 0 12
 have c2:=within_ok (n : Int) 0 12
 rw [show (decide ((0 : Int)<=((n + 1 : Nat) : Int)) && decide (((n + 1 : Nat) : Int)<=12))=true by simp; omega] at c1
 rw [show (decide ((0 : Int)<=(n : Int)) && decide ((n : Int)<=12))=true by simp; omega] at c2
 have cA:=fun L xs h1 h2 => famAdd_ok (((n + 1 : Nat) : Int) * n) L xs h1 h2
 have cC:=famCnf_own (((n + 1 : Nat) : Int) * n) (cnfI n) hok (by have:=pJ_len mustI hn n; unfold cnfI; omega) hx
 clear hok hx
 generalize hV : ((n + 1 : Nat) : Int) * n=V at *
 refine Ctr.of (n:=84) (rs:=[.cell 4 29,.tmp 5]) Try.func131 rfl rfl Try.ntmps131 rfl rfl (by kernel_rfl) Try.checked.mixed ?_
 simp (disch:=first | omega | decide +kernel) only [hV,go_sem,Qa,Qb,Qc,Qd,Qe,↓reduceIte,reduceCtorEq,Qf,Qg,Qh]
 (repeat' (first | ((first | (refine gsel_split (fun q' => ?_) (fun q' => ?_)<;>(have h':=q')<;>(try simp only [za1,za2,Ba,Bb,za3,ne_eq,za4,za5,za6,Ia,Ib,Ic,Ie,Da,Bc,Bd,Be,za7,za8] at h')) | (have q':=trivial; first | refine callX_new (c1) rfl (by decide) ?_ | refine callY_new (c1) rfl ?_ | refine callX_new (c2) rfl (by decide) ?_ | refine callY_new (c2) rfl ?_ | refine hE _ _ ret_ne ?_ | refine hE _ _ exit_ne ?_))<;>(try simp (disch:=first | omega | decide +kernel) only [q',hV,go_sem,Qa,Qb,Qc,Qd,Qe,↓reduceIte,reduceCtorEq,Qf,Qg,Qh])<;>clear q') | refine hN _ ?_ ?_ Wk.kk | with_reducible refine And.intro ?_ ?_ | with_reducible omega | exact ok_ints | exact cells_ints | exact no_mem | with_reducible exact plain_ints | (refine le_maxLen ?_; omega) | (refine za9 ⟨?_,?_⟩) | (simp only [go_sem,Qc,Qb,zb1,zb2,forall_eq]; done)))
 refine Ok.loopNO [83,82,81,80,79,78,77,76,75,74,73,72,71,70,69,68,67,66,65,64,63,62,61,60,59,58,57,56,55,54,53,52,51,50,49,48,47,46,45,44,43,42,41,40,39,38,37,36,35,34,33,32,31,30,29,28,26,25,24,23,22,21,20,19,18,17,16,15,14,13,12,11,10,9,8,7,3,2] (fun i _ => [(28,.d (.int .i64 (i : Nat)))]) (fun _ (L : List (List Int)) => [(26,fmB V 800000001),(800000001,fmT L)]) (n + 1)
  (fun i L => L=pA mustI n i) [] rfl ((Wk.nilObj 800000001 26 1 rfl rfl (by simp) (by decide) (e:=38) (k:=1) (by decide)).trans ((Wk.deep 800000001 (by simp (disch:=first | omega | decide +kernel) only [setL,go_sem,Qa,Qb,Qc,Qd,Qe,↓reduceIte,reduceCtorEq,Qf,Qg,Qh]; rfl) (by simp [flat])).trans (by refine Wk.auto ?_ ?_<;>simp [extraK,lk,killL,St.kill,wipeO,wipeS,AV.has,AV.hasL,AO.wipe,List.map_set,updSt,insL,dropS,ins,setL]))) ?_
 rintro R i L hN hE hi hL
 have hll : L.length=i:=by rw [hL,pA_len]
 by_cases hlt : i < n + 1
 . have hs : pA mustI n (i + 1)=L++[mustI (pRow n (i + 1) n)]:=by rw [pA,← hL]
   have hin:=nn_bd (n:=n) (i:=i) hn (by omega)
   refine Ok.seq (Ok.go ?_)
   simp (disch:=first | omega | decide +kernel) only [go_sem,Qa,Qb,Qc,Qd,Qe,↓reduceIte,reduceCtorEq,Qf,Qg,Qh]
   refine Ok.seq (Ok.go ?_)
   simp (disch:=first | omega | decide +kernel) only [go_sem,Qa,Qb,Qc,Qd,Qe,↓reduceIte,reduceCtorEq,Qf,Qg,Qh]
   (repeat' (first | ((first | (refine gsel_split (fun q' => ?_) (fun q' => ?_)<;>(have h':=q')<;>(try simp only [za1,za2,Ba,Bb,za3,ne_eq,za4,za5,za6,Ia,Ib,Ic,Ie,Da,Bc,Bd,Be,za7,za8] at h')<;>try (exfalso; omega)) | (have q':=trivial; first | refine hE _ _ ret_ne ?_ | refine hE _ _ exit_ne ?_))<;>(try simp (disch:=first | omega | decide +kernel) only [q',go_sem,Qa,Qb,Qc,Qd,Qe,↓reduceIte,reduceCtorEq,Qf,Qg,Qh])<;>clear q') | refine hN _ ?_ ?_ Wk.kk | with_reducible refine And.intro ?_ ?_ | with_reducible omega | exact ok_ints | exact cells_ints | exact no_mem | with_reducible exact plain_ints | (refine le_maxLen ?_; omega) | (refine za9 ⟨?_,?_⟩) | (simp only [go_sem,Qc,Qb,zb1,zb2,forall_eq]; done)))
   refine Ok.seq (Ok.block (Ok.seq (Ok.go ?_)))
   simp (disch:=first | omega | decide +kernel) only [go_sem,Qa,Qb,Qc,Qd,Qe,↓reduceIte,reduceCtorEq,Qf,Qg,Qh]
   refine Ok.seq (Ok.go ?_)
   simp (disch:=first | omega | decide +kernel) only [go_sem,Qa,Qb,Qc,Qd,Qe,↓reduceIte,reduceCtorEq,Qf,Qg,Qh]
   refine Ok.seq (Ok.go ?_)
   simp (disch:=first | omega | decide +kernel) only [go_sem,Qa,Qb,Qc,Qd,Qe,↓reduceIte,reduceCtorEq,Qf,Qg,Qh]
   refine Ok.loopN [83,82,81,80,79,78,77,76,75,74,73,72,71,70,69,68,67,66,65,64,63,62,61,60,59,58,57,56,55,54,53,52,51,50,49,48,47,46,45,44,43,42,41,40,39,38,37,36,35,34,33,32,31,30,29,26,25,24,23,22,21,20,19,18,17,16,15,14,13,12,11,10,9,8,3,2] (fun j _ => [(9,.d (.int .i64 (1 + (j : Nat)))),(8,.sl 8)]) (fun _ (c : List Int) => [(8,.arr 3 1 (c.map (.int .i64)))]) n
    (fun j c => c=pRow n (i + 1) j) [] rfl (Wk.kk) ?_
   rintro R2 j c hN2 hE2 hj hc
   have hcl : c.length=j:=by rw [hc,pRow_len]
   by_cases hlt2 : j < n
   . have hs2 : pRow n (i + 1) (j + 1)=c++[(i : Int) * n + (1 + j)]:=by rw [pRow,← hc,pvar_eq]; congr 2; omega
     clear cA cC c1 c2
     generalize hP : (i : Int) * n=P0 at *
     simp (disch:=first | omega | decide +kernel) only [hP,go_sem,Qa,Qb,Qc,Qd,Qe,↓reduceIte,reduceCtorEq,Qf,Qg,Qh]
     (repeat' (first | ((first | (refine gsel_split (fun q' => ?_) (fun q' => ?_)<;>(have h':=q')<;>(try simp only [za1,za2,Ba,Bb,za3,ne_eq,za4,za5,za6,Ia,Ib,Ic,Ie,Da,Bc,Bd,Be,za7,za8] at h')<;>try (exfalso; omega)) | (have q':=trivial; first | refine hE _ _ ret_ne ?_ | refine hE _ _ exit_ne ?_))<;>(try simp (disch:=first | omega | decide +kernel) only [q',hP,go_sem,Qa,Qb,Qc,Qd,Qe,↓reduceIte,reduceCtorEq,Qf,Qg,Qh])<;>clear q') | refine hN _ ?_ ?_ Wk.kk | with_reducible refine And.intro ?_ ?_ | with_reducible omega | exact ok_ints | exact cells_ints | exact no_mem | with_reducible exact plain_ints | (refine le_maxLen ?_; omega) | (refine za9 ⟨?_,?_⟩) | (simp only [go_sem,Qc,Qb,zb1,zb2,forall_eq]; done)))
     refine hN2 (c++[P0 + (1 + j)]) _ hlt2 hs2.symm (by refine Wk.auto ?_ ?_<;>simp [extraK,lk,killL,St.kill,wipeO,wipeS,AV.has,AV.hasL,AO.wipe,List.map_set,updSt,insL,dropS,ins,List.map_append,List.map_cons,List.map_nil,Int.add_assoc])
   . obtain rfl : j=n:=by omega
     have cB:=cA L c (by omega) (by omega)
     simp (disch:=first | omega | decide +kernel) only [go_sem,Qa,Qb,Qc,Qd,Qe,↓reduceIte,reduceCtorEq,Qf,Qg,Qh]
     (repeat' (first | ((first | (refine gsel_split (fun q' => ?_) (fun q' => ?_)<;>(have h':=q')<;>(try simp only [za1,za2,Ba,Bb,za3,ne_eq,za4,za5,za6,Ia,Ib,Ic,Ie,Da,Bc,Bd,Be,za7,za8] at h')<;>try (exfalso; omega)) | (have q':=trivial; first | refine hE _ _ ret_ne ?_ | refine hE _ _ exit_ne ?_))<;>(try simp (disch:=first | omega | decide +kernel) only [q',go_sem,Qa,Qb,Qc,Qd,Qe,↓reduceIte,reduceCtorEq,Qf,Qg,Qh])<;>clear q') | refine hN _ ?_ ?_ Wk.kk | with_reducible refine And.intro ?_ ?_ | with_reducible omega | exact ok_ints | exact cells_ints | exact no_mem | with_reducible exact plain_ints | (refine le_maxLen ?_; omega) | (refine za9 ⟨?_,?_⟩) | (simp only [go_sem,Qc,Qb,zb1,zb2,forall_eq]; done)))
     refine hE2 _ _ exit_ne ?_
     simp (disch:=first | omega | decide +kernel) only [go_sem,Qa,Qb,Qc,Qd,Qe,↓reduceIte,reduceCtorEq,Qf,Qg,Qh]
     refine Ok.weak (Wk.frz (j:=8) rfl) ?_
     refine Ok.go ?_
     simp (disch:=first | omega | decide +kernel) only [go_sem,Qa,Qb,Qc,Qd,Qe,↓reduceIte,reduceCtorEq,Qf,Qg,Qh]
     refine callX_mut [26,800000001] [26,800000001] [800000001] cB ⟨.inl rfl,.inl rfl,trivial⟩ ⟨rfl,rfl,trivial⟩ rfl (by simp [dstB]) ?_
     simp (disch:=first | omega | decide +kernel) only [go_sem,Qa,Qb,Qc,Qd,Qe,↓reduceIte,reduceCtorEq,Qf,Qg,Qh]
     refine Ok.go ?_
     simp (disch:=first | omega | decide +kernel) only [go_sem,Qa,Qb,Qc,Qd,Qe,↓reduceIte,reduceCtorEq,Qf,Qg,Qh]
     refine hN (L++[mustI (pRow j (i + 1) j)]) _ hlt hs.symm ?_
     rw [← hc]
     exact (by refine Wk.auto ?_ ?_<;>simp [extraK,lk,killL,St.kill,wipeO,wipeS,AV.has,AV.hasL,AO.wipe,List.map_set,updSt,insL,dropS,ins,List.map_append,List.map_cons,List.map_nil,Int.add_assoc,D.ints])
 . obtain rfl : i=n + 1:=by omega
   refine Ok.go ?_
   simp (disch:=first | omega | decide +kernel) only [go_sem,Qa,Qb,Qc,Qd,Qe,↓reduceIte,reduceCtorEq,Qf,Qg,Qh]
   (repeat' (first | ((first | (refine gsel_split (fun q' => ?_) (fun q' => ?_)<;>(have h':=q')<;>(try simp only [za1,za2,Ba,Bb,za3,ne_eq,za4,za5,za6,Ia,Ib,Ic,Ie,Da,Bc,Bd,Be,za7,za8] at h')<;>try (exfalso; omega)) | (have q':=trivial; first | refine hE _ _ ret_ne ?_ | refine hE _ _ exit_ne ?_))<;>(try simp (disch:=first | omega | decide +kernel) only [q',go_sem,Qa,Qb,Qc,Qd,Qe,↓reduceIte,reduceCtorEq,Qf,Qg,Qh])<;>clear q') | refine hN _ ?_ ?_ Wk.kk | with_reducible refine And.intro ?_ ?_ | with_reducible omega | exact ok_ints | exact cells_ints | exact no_mem | with_reducible exact plain_ints | (refine le_maxLen ?_; omega) | (refine za9 ⟨?_,?_⟩) | (simp only [go_sem,Qc,Qb,zb1,zb2,forall_eq]; done)))
   refine Ok.loopN [83,82,81,80,79,78,77,76,75,74,73,72,71,70,69,68,67,66,65,64,63,62,61,60,59,58,57,56,55,54,53,52,51,50,49,48,47,46,45,44,43,42,41,40,39,38,37,36,35,34,33,32,31,30,29,28,27,26,25,24,23,22,21,20,19,18,17,16,15,14,13,12,11,10,9,8,7,3,2] (fun j _ => [(10,.d (.int .i64 (1 + (j : Nat))))]) (fun _ (L : List (List Int)) => [(26,fmB V 800000001),(800000001,fmT L)]) n
    (fun j L => L=pJ mustI n j) L (by rw [hL]; rfl) (Wk.kk) ?_
   rintro R1 j L1 hN1 hE1 hj hL1
   have hl1:=pJ_len mustI hn j
   rw [← hL1] at hl1
   by_cases hlt1 : j < n
   . have hsJ : pJ mustI n (j + 1)=pI mustI n (j + 1) L1 (n + 1):=by rw [pJ,← hL1]
     simp (disch:=first | omega | decide +kernel) only [go_sem,Qa,Qb,Qc,Qd,Qe,↓reduceIte,reduceCtorEq,Qf,Qg,Qh]
     (repeat' (first | ((first | (refine gsel_split (fun q' => ?_) (fun q' => ?_)<;>(have h':=q')<;>(try simp only [za1,za2,Ba,Bb,za3,ne_eq,za4,za5,za6,Ia,Ib,Ic,Ie,Da,Bc,Bd,Be,za7,za8] at h')<;>try (exfalso; omega)) | (have q':=trivial; first | refine hE _ _ ret_ne ?_ | refine hE _ _ exit_ne ?_))<;>(try simp (disch:=first | omega | decide +kernel) only [q',go_sem,Qa,Qb,Qc,Qd,Qe,↓reduceIte,reduceCtorEq,Qf,Qg,Qh])<;>clear q') | refine hN _ ?_ ?_ Wk.kk | with_reducible refine And.intro ?_ ?_ | with_reducible omega | exact ok_ints | exact cells_ints | exact no_mem | with_reducible exact plain_ints | (refine le_maxLen ?_; omega) | (refine za9 ⟨?_,?_⟩) | (simp only [go_sem,Qc,Qb,zb1,zb2,forall_eq]; done)))
     refine Ok.loopN [83,82,81,80,79,78,77,76,75,74,73,72,71,70,69,68,67,66,65,64,63,62,61,60,59,58,57,56,55,54,52,51,50,49,48,47,46,45,44,43,42,41,40,39,38,37,36,35,34,33,32,31,30,29,28,27,26,25,24,23,22,21,20,19,18,17,16,15,14,13,12,11,9,8,7,3,2] (fun i _ => [(54,.d (.int .i64 (i : Nat)))]) (fun _ (L : List (List Int)) => [(26,fmB V 800000001),(800000001,fmT L)]) (n + 1)
      (fun i L => L=pI mustI n (j + 1) L1 i) L1 rfl (Wk.kk) ?_
     rintro R2 i L2 hN2 hE2 hi2 hL2
     have hl2:=pI_len mustI hn (j + 1) L1 i
     rw [← hL2] at hl2
     by_cases hlt2 : i < n + 1
     . have hsI : pI mustI n (j + 1) L1 (i + 1)=pK mustI n (j + 1) (i + 1) L2 (n - i):=by rw [pI,← hL2]
       have hin:=nn_bd (n:=n) (i:=i) hn (by omega)
       simp (disch:=first | omega | decide +kernel) only [go_sem,Qa,Qb,Qc,Qd,Qe,↓reduceIte,reduceCtorEq,Qf,Qg,Qh]
       (repeat' (first | ((first | (refine gsel_split (fun q' => ?_) (fun q' => ?_)<;>(have h':=q')<;>(try simp only [za1,za2,Ba,Bb,za3,ne_eq,za4,za5,za6,Ia,Ib,Ic,Ie,Da,Bc,Bd,Be,za7,za8] at h')<;>try (exfalso; omega)) | (have q':=trivial; first | refine hE _ _ ret_ne ?_ | refine hE _ _ exit_ne ?_))<;>(try simp (disch:=first | omega | decide +kernel) only [q',go_sem,Qa,Qb,Qc,Qd,Qe,↓reduceIte,reduceCtorEq,Qf,Qg,Qh])<;>clear q') | refine hN _ ?_ ?_ Wk.kk | with_reducible refine And.intro ?_ ?_ | with_reducible omega | exact ok_ints | exact cells_ints | exact no_mem | with_reducible exact plain_ints | (refine le_maxLen ?_; omega) | (refine za9 ⟨?_,?_⟩) | (simp only [go_sem,Qc,Qb,zb1,zb2,forall_eq]; done)))
       refine Ok.loopN [83,82,81,80,79,78,77,76,75,74,73,72,71,70,69,68,67,66,65,64,63,62,61,60,59,58,57,56,55,52,51,50,49,48,47,46,45,44,43,42,41,40,39,38,37,36,35,34,33,32,31,30,29,28,27,26,25,24,23,22,21,20,19,18,17,16,15,14,13,12,9,8,7,3,2] (fun k _ => [(12,.d (.int .i64 ((i : Nat) + 1 + (k : Nat))))]) (fun _ (L : List (List Int)) => [(26,fmB V 800000001),(800000001,fmT L)]) (n - i)
        (fun k L => L=pK mustI n (j + 1) (i + 1) L2 k) L2 rfl (Wk.kk) ?_
       rintro R3 k L3 hN3 hE3 hk hL3
       have hl3:=pK_len mustI n (j + 1) (i + 1) L2 k
       rw [← hL3] at hl3
       by_cases hlt3 : k < n - i
       . have hkn:=nn_bd (n:=n) (i:=i + 1 + k) hn (by omega)
         have hs3 : pK mustI n (j + 1) (i + 1) L2 (k + 1)=L3++[mustI [0 - ((i : Int) * n + (1 + j)),0 - (((i + 1 + k : Nat) : Int) * n + (1 + j))]]:=by
          rw [pK,← hL3,pvar_eq,show i + 1 + 1 + k=(i + 1 + k) + 1 by omega,pvar_eq]
          have e : ∀ x : Int,-(x + ((j + 1 : Nat) : Int))=0 - (x + (1 + j)):=fun x => by omega
          rw [e,e]
         rw [show ((i + 1 + k : Nat) : Int)=(i : Int) + 1 + k by omega] at hs3 hkn
         have cB:=fun xs h => cA L3 xs h (by omega)
         clear cA cC c1 c2
         generalize hP : (i : Int) * n=P0 at *
         generalize hP' : ((i : Int) + 1 + k) * n=P1 at *
         have cB:=cB [0 - (P0 + (1 + j)),0 - (P1 + (1 + j))] (by simp)
         simp only [D.ints,List.map_cons,List.map_nil] at cB
         simp (disch:=first | omega | decide +kernel) only [hP,hP',go_sem,Qa,Qb,Qc,Qd,Qe,↓reduceIte,reduceCtorEq,Qf,Qg,Qh]
         (repeat' (first | ((first | (refine gsel_split (fun q' => ?_) (fun q' => ?_)<;>(have h':=q')<;>(try simp only [za1,za2,Ba,Bb,za3,ne_eq,za4,za5,za6,Ia,Ib,Ic,Ie,Da,Bc,Bd,Be,za7,za8] at h')<;>try (exfalso; omega)) | (have q':=trivial; first | refine hE _ _ ret_ne ?_ | refine hE _ _ exit_ne ?_))<;>(try simp (disch:=first | omega | decide +kernel) only [q',hP,hP',go_sem,Qa,Qb,Qc,Qd,Qe,↓reduceIte,reduceCtorEq,Qf,Qg,Qh])<;>clear q') | refine hN _ ?_ ?_ Wk.kk | with_reducible refine And.intro ?_ ?_ | with_reducible omega | exact ok_ints | exact cells_ints | exact no_mem | with_reducible exact plain_ints | (refine le_maxLen ?_; omega) | (refine za9 ⟨?_,?_⟩) | (simp only [go_sem,Qc,Qb,zb1,zb2,forall_eq]; done)))
         refine callX_mut [26,800000001] [26,800000001] [800000001] cB ⟨.inl rfl,.inr ⟨rfl,_,rfl,rfl⟩,trivial⟩ ⟨rfl,rfl,trivial⟩ rfl (by simp [dstB]) ?_
         simp (disch:=first | omega | decide +kernel) only [go_sem,Qa,Qb,Qc,Qd,Qe,↓reduceIte,reduceCtorEq,Qf,Qg,Qh]
         refine hN3 (L3++[mustI [0 - (P0 + (1 + j)),0 - (P1 + (1 + j))]]) _ hlt3 hs3.symm (by refine Wk.auto ?_ ?_<;>simp [extraK,lk,killL,St.kill,wipeO,wipeS,AV.has,AV.hasL,AO.wipe,List.map_set,updSt,insL,dropS,ins,List.map_append,List.map_cons,List.map_nil,Int.add_assoc,D.ints])
       . obtain rfl : k=n - i:=by omega
         simp (disch:=first | omega | decide +kernel) only [go_sem,Qa,Qb,Qc,Qd,Qe,↓reduceIte,reduceCtorEq,Qf,Qg,Qh]
         (repeat' (first | ((first | (refine gsel_split (fun q' => ?_) (fun q' => ?_)<;>(have h':=q')<;>(try simp only [za1,za2,Ba,Bb,za3,ne_eq,za4,za5,za6,Ia,Ib,Ic,Ie,Da,Bc,Bd,Be,za7,za8] at h')<;>try (exfalso; omega)) | (have q':=trivial; first | refine hE _ _ ret_ne ?_ | refine hE _ _ exit_ne ?_))<;>(try simp (disch:=first | omega | decide +kernel) only [q',go_sem,Qa,Qb,Qc,Qd,Qe,↓reduceIte,reduceCtorEq,Qf,Qg,Qh])<;>clear q') | refine hN _ ?_ ?_ Wk.kk | with_reducible refine And.intro ?_ ?_ | with_reducible omega | exact ok_ints | exact cells_ints | exact no_mem | with_reducible exact plain_ints | (refine le_maxLen ?_; omega) | (refine za9 ⟨?_,?_⟩) | (simp only [go_sem,Qc,Qb,zb1,zb2,forall_eq]; done)))
         refine hE3 _ _ exit_ne ?_
         simp (disch:=first | omega | decide +kernel) only [go_sem,Qa,Qb,Qc,Qd,Qe,↓reduceIte,reduceCtorEq,Qf,Qg,Qh]
         (repeat' (first | ((first | (refine gsel_split (fun q' => ?_) (fun q' => ?_)<;>(have h':=q')<;>(try simp only [za1,za2,Ba,Bb,za3,ne_eq,za4,za5,za6,Ia,Ib,Ic,Ie,Da,Bc,Bd,Be,za7,za8] at h')<;>try (exfalso; omega)) | (have q':=trivial; first | refine hE _ _ ret_ne ?_ | refine hE _ _ exit_ne ?_))<;>(try simp (disch:=first | omega | decide +kernel) only [q',go_sem,Qa,Qb,Qc,Qd,Qe,↓reduceIte,reduceCtorEq,Qf,Qg,Qh])<;>clear q') | refine hN _ ?_ ?_ Wk.kk | with_reducible refine And.intro ?_ ?_ | with_reducible omega | exact ok_ints | exact cells_ints | exact no_mem | with_reducible exact plain_ints | (refine le_maxLen ?_; omega) | (refine za9 ⟨?_,?_⟩) | (simp only [go_sem,Qc,Qb,zb1,zb2,forall_eq]; done)))
         refine hN2 L3 _ hlt2 (by rw [hsI,hL3]) (by refine Wk.auto ?_ ?_<;>simp [extraK,lk,killL,St.kill,wipeO,wipeS,AV.has,AV.hasL,AO.wipe,List.map_set,updSt,insL,dropS,ins,Int.add_assoc])
     . obtain rfl : i=n + 1:=by omega
       simp (disch:=first | omega | decide +kernel) only [go_sem,Qa,Qb,Qc,Qd,Qe,↓reduceIte,reduceCtorEq,Qf,Qg,Qh]
       (repeat' (first | ((first | (refine gsel_split (fun q' => ?_) (fun q' => ?_)<;>(have h':=q')<;>(try simp only [za1,za2,Ba,Bb,za3,ne_eq,za4,za5,za6,Ia,Ib,Ic,Ie,Da,Bc,Bd,Be,za7,za8] at h')<;>try (exfalso; omega)) | (have q':=trivial; first | refine hE _ _ ret_ne ?_ | refine hE _ _ exit_ne ?_))<;>(try simp (disch:=first | omega | decide +kernel) only [q',go_sem,Qa,Qb,Qc,Qd,Qe,↓reduceIte,reduceCtorEq,Qf,Qg,Qh])<;>clear q') | refine hN _ ?_ ?_ Wk.kk | with_reducible refine And.intro ?_ ?_ | with_reducible omega | exact ok_ints | exact cells_ints | exact no_mem | with_reducible exact plain_ints | (refine le_maxLen ?_; omega) | (refine za9 ⟨?_,?_⟩) | (simp only [go_sem,Qc,Qb,zb1,zb2,forall_eq]; done)))
       refine hE2 _ _ exit_ne ?_
       simp (disch:=first | omega | decide +kernel) only [go_sem,Qa,Qb,Qc,Qd,Qe,↓reduceIte,reduceCtorEq,Qf,Qg,Qh]
       (repeat' (first | ((first | (refine gsel_split (fun q' => ?_) (fun q' => ?_)<;>(have h':=q')<;>(try simp only [za1,za2,Ba,Bb,za3,ne_eq,za4,za5,za6,Ia,Ib,Ic,Ie,Da,Bc,Bd,Be,za7,za8] at h')<;>try (exfalso; omega)) | (have q':=trivial; first | refine hE _ _ ret_ne ?_ | refine hE _ _ exit_ne ?_))<;>(try simp (disch:=first | omega | decide +kernel) only [q',go_sem,Qa,Qb,Qc,Qd,Qe,↓reduceIte,reduceCtorEq,Qf,Qg,Qh])<;>clear q') | refine hN _ ?_ ?_ Wk.kk | with_reducible refine And.intro ?_ ?_ | with_reducible omega | exact ok_ints | exact cells_ints | exact no_mem | with_reducible exact plain_ints | (refine le_maxLen ?_; omega) | (refine za9 ⟨?_,?_⟩) | (simp only [go_sem,Qc,Qb,zb1,zb2,forall_eq]; done)))
       refine hN1 L2 _ hlt1 (by rw [hsJ,hL2]) (by refine Wk.auto ?_ ?_<;>simp [extraK,lk,killL,St.kill,wipeO,wipeS,AV.has,AV.hasL,AO.wipe,List.map_set,updSt,insL,dropS,ins,Int.add_assoc])
   . obtain rfl : j=n:=by omega
     rw [show L1=cnfI j from hL1]
     simp (disch:=first | omega | decide +kernel) only [go_sem,Qa,Qb,Qc,Qd,Qe,↓reduceIte,reduceCtorEq,Qf,Qg,Qh]
     (repeat' (first | ((first | (refine gsel_split (fun q' => ?_) (fun q' => ?_)<;>(have h':=q')<;>(try simp only [za1,za2,Ba,Bb,za3,ne_eq,za4,za5,za6,Ia,Ib,Ic,Ie,Da,Bc,Bd,Be,za7,za8] at h')<;>try (exfalso; omega)) | (have q':=trivial; first | refine hE _ _ ret_ne ?_ | refine hE _ _ exit_ne ?_))<;>(try simp (disch:=first | omega | decide +kernel) only [q',go_sem,Qa,Qb,Qc,Qd,Qe,↓reduceIte,reduceCtorEq,Qf,Qg,Qh])<;>clear q') | refine hN _ ?_ ?_ Wk.kk | with_reducible refine And.intro ?_ ?_ | with_reducible omega | exact ok_ints | exact cells_ints | exact no_mem | with_reducible exact plain_ints | (refine le_maxLen ?_; omega) | (refine za9 ⟨?_,?_⟩) | (simp only [go_sem,Qc,Qb,zb1,zb2,forall_eq]; done)))
     refine hE1 _ _ exit_ne ?_
     simp (disch:=first | omega | decide +kernel) only [go_sem,Qa,Qb,Qc,Qd,Qe,↓reduceIte,reduceCtorEq,Qf,Qg,Qh]
     refine callX_mut [26,800000001] [800000001] [26,800000001] cC ⟨.inl rfl,trivial⟩ ⟨rfl,rfl,trivial⟩ rfl (by simp [dstB]) ?_
     simp (disch:=first | omega | decide +kernel) only [go_sem,Qa,Qb,Qc,Qd,Qe,↓reduceIte,reduceCtorEq,Qf,Qg,Qh]
     (repeat' (first | ((first | (refine gsel_split (fun q' => ?_) (fun q' => ?_)<;>(have h':=q')<;>(try simp only [za1,za2,Ba,Bb,za3,ne_eq,za4,za5,za6,Ia,Ib,Ic,Ie,Da,Bc,Bd,Be,za7,za8] at h')<;>try (exfalso; omega)) | (have q':=trivial; first | refine hE _ _ ret_ne ?_ | refine hE _ _ exit_ne ?_))<;>(try simp (disch:=first | omega | decide +kernel) only [q',go_sem,Qa,Qb,Qc,Qd,Qe,↓reduceIte,reduceCtorEq,Qf,Qg,Qh])<;>clear q') | refine hN _ ?_ ?_ Wk.kk | with_reducible refine And.intro ?_ ?_ | with_reducible omega | exact ok_ints | exact cells_ints | exact no_mem | with_reducible exact plain_ints | (refine le_maxLen ?_; omega) | (refine za9 ⟨?_,?_⟩) | (simp only [go_sem,Qc,Qb,zb1,zb2,forall_eq]; done)))
     exact ret_cstd1 rfl rfl rfl (by simp only [go_sem]) (by simp only [go_sem,List.length_cons,List.length_nil]) rfl (by simp only [go_sem]) rfl rfl ⟨rfl,trivial,trivial⟩ trivial rfl rfl
end Abs.Y
