/- What functions of this program compute, over plain data. No condition. -/
import Derived.Test.YtkccabajcdphkaaGreatK2
import Derived.Test.YtkccabajcdphkaaGreatAbsBox
import Derived.Test.YtkccabajcdphkaaGreatFF3
import Derived.Test.YtkccabajcdphkaaGreatE4
set_option linter.all false
open Nat renaming reduceEqDiff -> Qa, reduceLT -> Qb, reduceAdd -> Qc, reduceMul -> Qd, reduceSub -> Qe, reduceLeDiff -> Qf, reduceSubDiff -> Qg, reduceBEq -> Qh
open Bool renaming not_eq_true' -> Ba, not_eq_false' -> Bb, and_eq_true -> Bc, or_eq_true -> Bh, or_eq_false_iff -> Be
open Int renaming ofNat_lt -> Ia, ofNat_le -> Ib, not_lt -> Ic, not_le -> Ie
open Decidable renaming not_not -> Da
namespace Abs
open Go Go.Proofs
theorem yk2 {P : Program} {a j u : Nat} {t e : TypeId} {cells : List AV} {ds : List D} {y : D} {st : St} (js : List Nat) (h : lk a (frzs js st).s=some (.p j 0)) (h' : lk u (frzs js st).s=some (.d y)) (hj : lk j (frzs js st).o=some (.box e cells)) (hag : aggT P t=true) (hn : P.cellsOf t=cells.length) (hd : allD cells=some ds) (hu : (P.underlying t).isSome=true) :
 retQ P [.cell a t,.tmp u] true (.tup [.d (.agg ds),.d y]) [] .ret st:=by
 refine .inr ⟨rfl,js,?_⟩
 have hl : (lk a (frzs js st).s).bind (xi5 P (frzs js st).o t)=some (0 + P.cellsOf t<=cells.length∧(P.underlying t).isSome=true,.d (.agg ds)):=by
  rw [h,Option.bind_some,xi5,hj]
  simp only [hag,if_true,List.drop_zero,hn,List.take_length,hd]
 simp only [retO,resV,hl,h']
 exact ⟨⟨hu,⟨by omega,hu⟩,trivial⟩,.nil rfl,.inl trivial⟩
end Abs
namespace Abs.Y
open Go Go.Proofs Abs
set_option maxRecDepth 100000

structure Pl where
 co : List Int
 bd : Int
deriving DecidableEq
@[reducible] def D.pl (p : Pl) : D:=.agg [.ints p.co,.int .i64 p.bd]
def plS (p : Pl) (l : Int) : Pl:=if 0 < l then ⟨p.co.set (l - 1).toNat 1,p.bd⟩ else ⟨p.co.set (0 - l - 1).toNat (-1),p.bd - 1⟩
def planI (u : Int) (c : List Int) : Pl:=c.foldl plS ⟨List.replicate u.toNat 0,1⟩
def Bd (n : Int) (p : Pl) : Prop:=(∀ j,-n<=p.co.getD j 0∧p.co.getD j 0<=n)∧-n<=p.bd∧p.bd<=n
def Lits (u : Int) (c : List Int) : Prop:=0<=u∧u<=12∧∀ x ∈ c,x ≠ 0∧-u<=x∧x<=u
def sgl (u v n b : Int) : Pl:=⟨(List.replicate u.toNat 0).set (v - 1).toNat n,b⟩
def litI (u l : Int) : Pl:=if 0 < l then sgl u l 1 0 else sgl u (0 - l) (-1) (-1)
def zipL (F : Int->Int->Int) (a b : List Int) : List Int:=(List.range a.length).map fun i => F (a.getD i 0) (b.getD i 0)
def zipP (F : Int->Int->Int) (q r : Pl) : Pl:=⟨zipL F q.co r.co,F q.bd r.bd⟩
def addP (q r : Pl) : Pl:=zipP (· + ·) q r
end Abs.Y

namespace Abs
open Go Go.Proofs
theorem retM_cbd {P : Program} {a j u : Nat} {t e : TypeId} {cells : List AV} {ds : List D} {y : D} {w : Nat->Value} {st : St} (h : lk a st.s=some (.p j 0)) (h' : lk u st.s=some (.d y)) (hj : lk j st.o=some (.box e cells)) (hag : aggT P t=true) (hn : P.cellsOf t=cells.length) (hd : allD cells=some ds)
 (hu : (P.underlying t).isSome=true) : retM P [.cell a t,.tmp u] w [] true (.tup [.d (.agg ds),.d y]) [] .ret st:=by
 have hl : (lk a st.s).bind (xi5 P st.o t)=some (0 + P.cellsOf t<=cells.length∧(P.underlying t).isSome=true,.d (.agg ds)):=by
  rw [h,Option.bind_some,xi5,hj]
  simp only [hag,if_true,List.drop_zero,hn,List.take_length,hd]
 simp only [retM,resV,hl,h']
 exact ⟨⟨hu,⟨by omega,hu⟩,trivial⟩,⟨fun j => j,rfl,by simp,by simp,trivial⟩,.inl trivial⟩
end Abs
namespace Abs.Y
open Go Go.Proofs Abs
set_option maxRecDepth 100000

@[reducible] def fmD (v : Int) (L : List (List Int)) : AO:=.box 59 [.d (.int .i64 v),.d (.slice (L.map D.ints))]
set_option maxHeartbeats 4000000 in
theorem famCnf_d (v : Int) (L : List (List Int)) (hok : xz5 v L=true) (hL : L.length<=1000) (hx : ∀ j,(L.getD j []).length<=4294967296) : CtrM Tryz.prog 39 [.p 0 0] [(0,fmD v L)] [] true (.tup [.d (.agg [.int .i64 v,.slice (L.map D.ints)]),.d (.bool true)]) []:=by
 have c1:=yy4 v L (by omega) hx
 rw [hok] at c1
 refine CtrM.of (n:=19) (rs:=[.cell 2 31,.tmp 3]) Tryz.func39 rfl rfl Tryz.ntmps39 rfl rfl (by kernel_rfl) Tryz.checked.mixed ?_; intro u
 simp (disch:=first | omega | decide +kernel) only [D.ints,go_sem,Qa,Qb,Qc,Qd,Qe,↓reduceIte,reduceCtorEq,Qf,Qg,Qh]
 (repeat' (first | ((first | (refine xa0 ?_ ?_<;>intro q'<;>(have h':=q')<;>(try simp only [zz] at h')<;>try (exfalso; omega)) | (have q':=trivial; first | refine xa3 (c1) rfl (by decide) ?_ | refine xa4 (c1) rfl ?_))<;>(try simp (disch:=first | omega | decide +kernel) only [q',D.ints,go_sem,Qa,Qb,Qc,Qd,Qe,↓reduceIte,reduceCtorEq,Qf,Qg,Qh])<;>clear q') | (with_reducible first | refine And.intro ?_ ?_ | omega) | exact xa6 | (refine xa1 ?_; omega) | (refine za9 ⟨?_,?_⟩) | (simp only [go_sem,Qc,Qb,zb1,zb2,forall_eq]; done)))
 all_goals exact retM_cbd rfl rfl rfl (by simp only [go_sem]) (by simp only [go_sem,List.length_cons,List.length_nil]) rfl (by simp only [go_sem])
set_option maxHeartbeats 4000000 in
theorem yi0 (g : Chg) (hg : GoodP g) : Ctr Tryz.prog 7 [D.chg g] true (.tup [.d (.agg [.int .i64 (g.ed.length : Nat),.slice ((parI g).map D.ints)]),.d (.bool true)]) []:=by
 have hn:=hg.n1
 have hm:=hg.m
 have hcl:=hg.c
 have c1:=xl8 g (by omega) (by omega)
 rw [xf0.2 hg] at c1
 have cC:=famCnf_d (g.ed.length : Nat) (parI g) (zl0 hg) (by have:=yf8 hg (Nat.le_refl _); unfold parI; omega) fun j => by
  by_cases hj : j < (parI g).length
  . obtain ⟨v,_,h⟩:=List.mem_flatMap.1 (xc0 (z:=([] : List Int)) hj)
    have h1:=ym1 (vsI g v) _ (List.mem_filter.1 h).1
    have h2 : ((parI g).getD j []).length=(xb0 g v).length:=by
     have:=congrArg List.length h1
     rwa [List.length_map,List.length_map,yh8] at this
    have h3 : (xb0 g v).length<=g.ed.length:=xg4 g v _
    omega
  . rw [List.getD_eq_getElem?_getD,List.getElem?_eq_none (by omega)]; exact Nat.zero_le _
 unfold parI at *
 have hpz : parT g 0=[]:=rfl
 refine Ctr.ofK (n:=58) (rs:=[.cell 2 31,.tmp 3]) Tryz.func7 rfl rfl Tryz.ntmps7 rfl rfl (by kernel_rfl) Tryz.checked.mixed ?_
 refine Ok.seq (Ok.go ?_)
 simp (disch:=first | omega | decide +kernel) only [D.chg,D.ints,go_sem,Qa,Qb,Qc,Qd,Qe,↓reduceIte,reduceCtorEq,Qf,Qg,Qh]
 refine Ok.seq (Ok.go ?_)
 simp only [D.chg,D.ints] at c1
 simp (disch:=first | omega | decide +kernel) only [D.chg,D.ints,go_sem,Qa,Qb,Qc,Qd,Qe,↓reduceIte,reduceCtorEq,Qf,Qg,Qh]
 (repeat' (first | ((first | (refine xa0 ?_ ?_<;>intro q'<;>(have h':=q')<;>(try simp only [zz] at h')<;>try (exfalso; omega)) | (have q':=trivial; first | refine xa3 (c1) rfl (by decide) ?_ | refine xa4 (c1) rfl ?_))<;>(try simp (disch:=first | omega | decide +kernel) only [q',D.ints,go_sem,Qa,Qb,Qc,Qd,Qe,↓reduceIte,reduceCtorEq,Qf,Qg,Qh])<;>clear q') | (with_reducible first | refine And.intro ?_ ?_ | omega) | (refine xa1 ?_; omega)))
 refine Ok.seq (Ok.go ?_)
 simp (disch:=first | omega | decide +kernel) only [go_sem,Qa,Qb,Qc,Qd,Qe,↓reduceIte,reduceCtorEq,Qf,Qg,Qh]
 (repeat' (first | ((first | (refine xa0 ?_ ?_<;>intro q'<;>(have h':=q')<;>(try simp only [zz] at h')<;>try (exfalso; omega)))<;>(try simp (disch:=first | omega | decide +kernel) only [q',go_sem,Qa,Qb,Qc,Qd,Qe,↓reduceIte,reduceCtorEq,Qf,Qg,Qh])<;>clear q') | (with_reducible first | refine And.intro ?_ ?_ | omega) | (refine xa1 ?_; omega)))
 refine Ok.weak (Wk.nilObj 800000001 18 1 rfl rfl (by simp) (by decide) (e:=25) (k:=1) (by decide)) ?_
 simp (disch:=first | omega | decide +kernel) only [setL,go_sem,Qa,Qb,Qc,Qd,Qe,↓reduceIte,reduceCtorEq,Qf,Qg,Qh]
 refine Ok.seq (Ok.go ?_)
 simp (disch:=first | omega | decide +kernel) only [go_sem,Qa,Qb,Qc,Qd,Qe,↓reduceIte,reduceCtorEq,Qf,Qg,Qh]
 (repeat' (first | ((first | (refine xa0 ?_ ?_<;>intro q'<;>(have h':=q')<;>(try simp only [zz] at h')<;>try (exfalso; omega)))<;>(try simp (disch:=first | omega | decide +kernel) only [q',go_sem,Qa,Qb,Qc,Qd,Qe,↓reduceIte,reduceCtorEq,Qf,Qg,Qh])<;>clear q') | (with_reducible first | refine And.intro ?_ ?_ | omega) | (refine xa1 ?_; omega)))
 refine Ok.loopNO [57,56,55,54,53,52,51,50,49,48,47,46,45,44,43,42,41,40,39,38,37,36,35,34,33,32,31,30,29,28,27,26,25,24,23,22,19,18,17,16,15,14,13,12,11,10,9,8,7,6,5] (fun i _ => [(22,.d (.int .i64 (i : Nat)))]) (fun i (_ : Unit) => [(800000001,.arr 25 1 ((parT g i).map D.ints))]) g.ch.length (fun _ _ => True) () trivial (by refine Wk.auto ?_ ?_<;>simp [xb1,lk,killL,St.kill,xb4,xb6,AV.has,AV.hasL,AO.wipe,List.map_set,xc2,insL,xc4,ins,hpz,List.map_nil]) ?_
 rintro R i _ hN hE1 hi _
 have hpl:=yf8 hg hi
 by_cases hlt : i < g.ch.length
 . have hd:=hg.d i hlt
   have hq:=hg.q i hlt
   have hei:=xl3 (xs:=g.ch) hlt
   have c2:=zv1 g i (by omega)
   have hvl:=yh8 g i
   have c3:=xorClauses_ok (vsI g i) (decide (g.ch.getD i 0=1)) (by omega) fun v hv => by have:=ys9 v hv; omega
   have hsu:=xw6 g i
   have hvs : vsI g i=(xb0 g i).map (· + 1):=rfl
   rw [show decide (g.ch.getD i 0=1)=(g.ch.getD i 0 == 1) from rfl] at c3 hsu
   simp only [D.chg,D.ints] at c2 c3
   have hes : ∀ k ∈ xb0 g i,0<=k∧k<=12:=fun k hk => by have:=xk2 hk; omega
   rw [hvs] at hvl hsu c3
   have hn3 : IntKind.i64.wrap 1=1:=rfl
   generalize xb0 g i=es at *
   refine Ok.seq (Ok.go ?_)
   simp (disch:=first | omega | decide +kernel) only [go_sem,Qa,Qb,Qc,Qd,Qe,↓reduceIte,reduceCtorEq,Qf,Qg,Qh]
   (repeat' (first | ((first | (refine xa0 ?_ ?_<;>intro q'<;>(have h':=q')<;>(try simp only [zz] at h')<;>try (exfalso; omega)))<;>(try simp (disch:=first | omega | decide +kernel) only [q',go_sem,Qa,Qb,Qc,Qd,Qe,↓reduceIte,reduceCtorEq,Qf,Qg,Qh])<;>clear q') | (with_reducible first | refine And.intro ?_ ?_ | omega) | (refine xa1 ?_; omega)))
   refine Ok.seq (Ok.go ?_)
   simp (disch:=first | omega | decide +kernel) only [go_sem,Qa,Qb,Qc,Qd,Qe,↓reduceIte,reduceCtorEq,Qf,Qg,Qh]
   (repeat' (first | ((first | (refine xa0 ?_ ?_<;>intro q'<;>(have h':=q')<;>(try simp only [zz] at h')<;>try (exfalso; omega)))<;>(try simp (disch:=first | omega | decide +kernel) only [q',go_sem,Qa,Qb,Qc,Qd,Qe,↓reduceIte,reduceCtorEq,Qf,Qg,Qh])<;>clear q') | (with_reducible first | refine And.intro ?_ ?_ | omega) | (refine xa1 ?_; omega)))
   refine Ok.seq (Ok.block (Ok.seq (Ok.go ?_)))
   simp (disch:=first | omega | decide +kernel) only [hei,D.ints,go_sem,Qa,Qb,Qc,Qd,Qe,↓reduceIte,reduceCtorEq,Qf,Qg,Qh]
   (repeat' (first | ((first | (refine xa0 ?_ ?_<;>intro q'<;>(have h':=q')<;>(try simp only [zz] at h')<;>try (exfalso; omega)))<;>(try simp (disch:=first | omega | decide +kernel) only [q',hei,D.ints,go_sem,Qa,Qb,Qc,Qd,Qe,↓reduceIte,reduceCtorEq,Qf,Qg,Qh])<;>clear q') | (with_reducible first | refine And.intro ?_ ?_ | omega) | (refine xa1 ?_; omega)))
   refine Ok.seq (Ok.go ?_)
   simp (disch:=first | omega | decide +kernel) only [go_sem,Qa,Qb,Qc,Qd,Qe,↓reduceIte,reduceCtorEq,Qf,Qg,Qh]
   refine Ok.seq (Ok.seq (Ok.go ?_))
   simp (disch:=first | omega | decide +kernel) only [D.ints,go_sem,Qa,Qb,Qc,Qd,Qe,↓reduceIte,reduceCtorEq,Qf,Qg,Qh]
   (repeat' (first | ((first | (refine xa0 ?_ ?_<;>intro q'<;>(have h':=q')<;>(try simp only [zz] at h')<;>try (exfalso; omega)) | (have q':=trivial; first | refine xa3 (c2) rfl (by decide) ?_ | refine xa4 (c2) rfl ?_))<;>(try simp (disch:=first | omega | decide +kernel) only [q',D.ints,go_sem,Qa,Qb,Qc,Qd,Qe,↓reduceIte,reduceCtorEq,Qf,Qg,Qh])<;>clear q') | (with_reducible first | refine And.intro ?_ ?_ | omega) | (refine xa1 ?_; omega)))
   refine Ok.block ?_
   refine Ok.loopNO [57,56,55,54,53,52,51,50,49,48,47,46,45,44,43,42,41,40,39,38,37,36,35,34,33,32,31,28,27,26,25,24,23,19,18,17,16,15,14,13,12,11,10,9,8,7] (fun j _ => [(31,.d (.int .i64 (j : Nat))),(7,.sl 7)]) (fun j (_ : Unit) => [(7,.arr 3 1 (((es.take j).map (· + 1)).map (.int .i64)))]) es.length (fun _ _ => True) () trivial (by refine Wk.auto ?_ ?_<;>simp [xb1,lk,killL,St.kill,xb4,xb6,AV.has,AV.hasL,AO.wipe,List.map_set,xc2,insL,xc4,ins,List.take_zero,List.map_nil]) ?_
   rintro R2 j _ hN2 hE2 hj _
   by_cases hjt : j < es.length
   . have hej:=xl3 (xs:=es) hjt
     have hm:=hes _ (xc0 (z:=(0 : Int)) hjt)
     have hsj : (es.take (j + 1)).map (· + 1)=(es.take j).map (· + 1)++[es.getD j 0 + 1]:=by rw [xf7 0 es j hjt,List.map_append]; rfl
     have hlj : ((es.take j).map (· + 1)).length<=j:=by rw [List.length_map,List.length_take]; omega
     generalize (es.take j).map (· + 1)=tk at *
     generalize es.getD j 0=k at *
     refine Ok.go ?_
     simp (disch:=first | omega | decide +kernel) only [hej,go_sem,Qa,Qb,Qc,Qd,Qe,↓reduceIte,reduceCtorEq,Qf,Qg,Qh]
     (repeat' (first | ((first | (refine xa0 ?_ ?_<;>intro q'<;>(have h':=q')<;>(try simp only [zz] at h')<;>try (exfalso; omega)))<;>(try simp (disch:=first | omega | decide +kernel) only [q',hej,go_sem,Qa,Qb,Qc,Qd,Qe,↓reduceIte,reduceCtorEq,Qf,Qg,Qh])<;>clear q') | (with_reducible first | refine And.intro ?_ ?_ | omega) | exact xa6 | (refine xa1 ?_; omega) | (refine za9 ⟨?_,?_⟩) | (simp only [go_sem,Qc,Qb,zb1,zb2,forall_eq]; done)))
     rw [show (j : Int) + 1=((j + 1 : Nat) : Int) by omega]
     refine hN2 () _ hjt trivial ?_
     rw [hsj]
     exact (by refine Wk.auto ?_ ?_<;>simp [xb1,lk,killL,St.kill,xb4,xb6,AV.has,AV.hasL,AO.wipe,List.map_set,xc2,insL,xc4,ins,List.map_append,List.map_cons,List.map_nil])
   . obtain rfl : j=es.length:=by omega
     rw [List.take_length] at *
     clear hN2
     generalize es.map (· + 1)=vs at *
     refine Ok.go ?_
     simp (disch:=first | omega | decide +kernel) only [go_sem,Qa,Qb,Qc,Qd,Qe,↓reduceIte,reduceCtorEq,Qf,Qg,Qh]
     (repeat' (first | ((first | (refine xa0 ?_ ?_<;>intro q'<;>(have h':=q')<;>(try simp only [zz] at h')<;>try (exfalso; omega)))<;>(try simp (disch:=first | omega | decide +kernel) only [q',go_sem,Qa,Qb,Qc,Qd,Qe,↓reduceIte,reduceCtorEq,Qf,Qg,Qh])<;>clear q') | (with_reducible first | refine And.intro ?_ ?_ | omega) | (refine xa1 ?_; omega)))
     refine hE2 _ _ xa2 ?_
     simp (disch:=first | omega | decide +kernel) only [go_sem,Qa,Qb,Qc,Qd,Qe,↓reduceIte,reduceCtorEq,Qf,Qg,Qh]
     refine Ok.weak (Wk.frz (j:=7) rfl) ?_
     simp (disch:=first | omega | decide +kernel) only [St.frz,frzS,frzO,AV.frz,AV.frzL,AO.frz,go_sem,Qa,Qb,Qc,Qd,Qe,↓reduceIte,reduceCtorEq,Qf,Qg,Qh]
     have hxl : (parT g i).length + (xorI vs (g.ch.getD i 0 == 1)).length<=56:=by
      have:=yf8 hg (m:=i + 1) (by omega)
      rw [hsu,List.length_append] at this
      exact this
     generalize xorI vs (g.ch.getD i 0 == 1)=xs at *
     generalize g.ch.getD i 0=ci at *
     refine Ok.reg7 [true,true,true,true,true,true,true,true,false,false,true,true,false] (by decide +kernel) ?_
     simp (disch:=first | omega | decide +kernel) only [D.ints,go_sem,Qa,Qb,Qc,Qd,Qe,↓reduceIte,reduceCtorEq,Qf,Qg,Qh]
     (repeat' (first | ((first | (refine xa0 ?_ ?_<;>intro q'<;>(have h':=q')<;>(try simp only [zz] at h')<;>try (exfalso; omega)) | (have q':=trivial; first | refine xb3 (c3) rfl (by decide) ?_ | refine xb2 (c3) rfl ?_))<;>(try simp (disch:=first | omega | decide +kernel) only [q',D.ints,go_sem,Qa,Qb,Qc,Qd,Qe,↓reduceIte,reduceCtorEq,Qf,Qg,Qh])<;>clear q') | (with_reducible first | refine And.intro ?_ ?_ | omega) | (refine xa1 ?_; omega)))
     . exact fun y hy => by obtain ⟨q,_,rfl⟩:=List.mem_map.1 hy; exact ⟨rfl,fun x hx => by cases hx with | head => rfl | tail _ h => cases h⟩
     refine Ok.go ?_
     simp (disch:=first | omega | decide +kernel) only [go_sem,Qa,Qb,Qc,Qd,Qe,↓reduceIte,reduceCtorEq,Qf,Qg,Qh]
     (repeat' (first | ((first | (refine xa0 ?_ ?_<;>intro q'<;>(have h':=q')<;>(try simp only [zz] at h')<;>try (exfalso; omega)))<;>(try simp (disch:=first | omega | decide +kernel) only [q',go_sem,Qa,Qb,Qc,Qd,Qe,↓reduceIte,reduceCtorEq,Qf,Qg,Qh])<;>clear q') | (with_reducible first | refine And.intro ?_ ?_ | omega) | (refine xa1 ?_; omega)))
     rw [show (i : Int) + 1=((i + 1 : Nat) : Int) by omega]
     refine hN () _ hlt trivial ?_
     rw [hsu]
     exact (by refine Wk.auto ?_ ?_<;>simp [xb1,lk,killL,St.kill,xb4,xb6,AV.has,AV.hasL,AO.wipe,List.map_set,xc2,insL,xc4,ins,List.map_append])
 . obtain rfl : i=g.ch.length:=by omega
   refine Ok.go ?_
   simp (disch:=first | omega | decide +kernel) only [go_sem,Qa,Qb,Qc,Qd,Qe,↓reduceIte,reduceCtorEq,Qf,Qg,Qh]
   (repeat' (first | ((first | (refine xa0 ?_ ?_<;>intro q'<;>(have h':=q')<;>(try simp only [zz] at h')<;>try (exfalso; omega)))<;>(try simp (disch:=first | omega | decide +kernel) only [q',go_sem,Qa,Qb,Qc,Qd,Qe,↓reduceIte,reduceCtorEq,Qf,Qg,Qh])<;>clear q') | (with_reducible first | refine And.intro ?_ ?_ | omega) | (refine xa1 ?_; omega)))
   refine hE1 _ _ xa2 ?_
   simp (disch:=first | omega | decide +kernel) only [go_sem,Qa,Qb,Qc,Qd,Qe,↓reduceIte,reduceCtorEq,Qf,Qg,Qh]
   refine Ok.weak (Wk.frz (j:=800000001) rfl) ?_
   simp (disch:=first | omega | decide +kernel) only [St.frz,frzS,frzO,AV.frz,AV.frzL,AO.frz,go_sem,Qa,Qb,Qc,Qd,Qe,↓reduceIte,reduceCtorEq,Qf,Qg,Qh]
   refine Ok.go ?_
   simp (disch:=first | omega | decide +kernel) only [go_sem,Qa,Qb,Qc,Qd,Qe,↓reduceIte,reduceCtorEq,Qf,Qg,Qh]
   (repeat' (first | ((first | (refine xa0 ?_ ?_<;>intro q'<;>(have h':=q')<;>(try simp only [zz] at h')<;>try (exfalso; omega)))<;>(try simp (disch:=first | omega | decide +kernel) only [q',go_sem,Qa,Qb,Qc,Qd,Qe,↓reduceIte,reduceCtorEq,Qf,Qg,Qh])<;>clear q') | (with_reducible first | refine And.intro ?_ ?_ | omega) | (refine xa1 ?_; omega)))
   refine xy0 [18] [] [18] cC ⟨.inl rfl,trivial⟩ ⟨rfl,trivial⟩ rfl (by simp [dstB]) ?_
   simp (disch:=first | omega | decide +kernel) only [go_sem,Qa,Qb,Qc,Qd,Qe,↓reduceIte,reduceCtorEq,Qf,Qg,Qh]
   (repeat' (first | ((first | (refine xa0 ?_ ?_<;>intro q'<;>(have h':=q')<;>(try simp only [zz] at h')<;>try (exfalso; omega)))<;>(try simp (disch:=first | omega | decide +kernel) only [q',go_sem,Qa,Qb,Qc,Qd,Qe,↓reduceIte,reduceCtorEq,Qf,Qg,Qh])<;>clear q') | (with_reducible first | refine And.intro ?_ ?_ | omega) | exact xa6 | (refine xa1 ?_; omega) | (refine za9 ⟨?_,?_⟩) | (simp only [go_sem,Qc,Qb,zb1,zb2,forall_eq]; done)))
   exact yk2 [] rfl rfl rfl (by simp only [go_sem]) (by simp only [go_sem,List.length_cons,List.length_nil]) rfl (by simp only [go_sem])
end Abs.Y

namespace Abs.Y
open Go Go.Proofs Abs
set_option maxRecDepth 100000

theorem yt5 {P : Program} {t : Nat} {x : D} {st : St} (js : List Nat) (h : lk t (frzs js st).s=some (.d x)) : retQ P [.tmp t] true (.d x) [] .ret st:=by
 refine .inr ⟨rfl,js,?_⟩
 simp only [retO,resV,h]
 exact ⟨trivial,.nil rfl,.inl trivial⟩
theorem l2InsertP_ok (list : List (List Int)) (c : List Int) (hl : list.length<=1048576) (hc : c.length<=4294967296) (sc : Sm c) (hx : ∀ x ∈ list,x.length<=4294967296) (hs : Srt list) :
 Ctr Tryz.prog 82 [.slice (list.map D.ints),.ints c] true (.d (.slice ((insI list c).map D.ints))) []:=by
 have hat:=zv9 hs sc
 have c1:=l2Place_ok list c (plI list c) (by omega) hc sc (fun x h => ⟨hx x h,hs.2 x h⟩) hat
 have hle:=hat.1
 unfold insI
 generalize plI list c=k at *
 have eD : (list.drop k).take (list.length - k)=list.drop k:=List.take_of_length_le (by simp)
 have hcell : ∀ l : List (List Int),∀ y ∈ l.map D.ints,y.cells.length=1:=fun l y hy => by obtain ⟨c,_,rfl⟩:=List.mem_map.1 hy; rfl
 have hok : ∀ l : List (List Int),∀ y ∈ l.map D.ints,D.ok 1 y:=fun l y hy => by obtain ⟨c,_,rfl⟩:=List.mem_map.1 hy; exact ⟨rfl,fun x hx => by cases hx with | head => rfl | tail _ h => cases h⟩
 have hA : (list.take k).length=k:=by rw [List.length_take]; omega
 have hB : (list.drop k).length=list.length - k:=List.length_drop
 by_cases hk : k < list.length
 . have hel : el (list.map D.ints) k=D.ints (list.getD k []):=xv3 (f:=D.ints) [] hk
   have c2:=l1Same_ok (list.getD k []) c (hx _ (xc0 hk))
   by_cases he : list.getD k []=c
   . rw [if_pos ⟨hk,he⟩]
     rw [decide_eq_true he] at c2
     refine Ctr.of (n:=34) (rs:=[.tmp 4]) Tryz.func82 rfl rfl Tryz.ntmps82 rfl rfl (by kernel_rfl) Tryz.checked.mixed ?_
     simp (disch:=first | omega | decide +kernel) only [D.ints,hel,go_sem,Qa,Qb,Qc,Qd,Qe,↓reduceIte,reduceCtorEq,Qf,Qg,Qh]
     (repeat' (first | ((first | (refine xa0 ?_ ?_<;>intro q'<;>(have h':=q')<;>(try simp only [zz] at h')) | (have q':=trivial; first | refine xa3 (c1) rfl (by decide) ?_ | refine xa4 (c1) rfl ?_ | refine xa3 (c2) rfl (by decide) ?_ | refine xa4 (c2) rfl ?_))<;>(try simp (disch:=first | omega | decide +kernel) only [q',D.ints,hel,go_sem,Qa,Qb,Qc,Qd,Qe,↓reduceIte,reduceCtorEq,Qf,Qg,Qh])<;>clear q') | refine hN _ ?_ ?_ Wk.kk | (with_reducible first | refine And.intro ?_ ?_ | omega) | exact xb8 | exact xa8 | exact xa6 | with_reducible exact xa7 | (refine xa1 ?_; omega) | (refine za9 ⟨?_,?_⟩) | (simp only [go_sem,Qc,Qb,zb1,zb2,forall_eq]; done)))
     exact yt5 [] rfl
   . rw [if_neg fun h => he h.2]
     rw [decide_eq_false he] at c2
     refine Ctr.of (n:=34) (rs:=[.tmp 4]) Tryz.func82 rfl rfl Tryz.ntmps82 rfl rfl (by kernel_rfl) Tryz.checked.mixed ?_
     simp (disch:=first | omega | decide +kernel) only [D.ints,hel,eD,go_sem,Qa,Qb,Qc,Qd,Qe,↓reduceIte,reduceCtorEq,Qf,Qg,Qh]
     (repeat' (first | ((first | (refine xa0 ?_ ?_<;>intro q'<;>(have h':=q')<;>(try simp only [zz] at h')) | (have q':=trivial; first | refine xa3 (c1) rfl (by decide) ?_ | refine xa4 (c1) rfl ?_ | refine xa3 (c2) rfl (by decide) ?_ | refine xa4 (c2) rfl ?_))<;>(try simp (disch:=first | omega | decide +kernel) only [q',D.ints,hel,eD,go_sem,Qa,Qb,Qc,Qd,Qe,↓reduceIte,reduceCtorEq,Qf,Qg,Qh])<;>clear q') | refine hN _ ?_ ?_ Wk.kk | (with_reducible first | refine And.intro ?_ ?_ | omega) | exact xb8 | exact xa8 | exact xa6 | with_reducible exact xa7 | (refine xa1 ?_; omega) | (refine za9 ⟨?_,?_⟩) | (simp only [go_sem,Qc,Qb,zb1,zb2,forall_eq]; done)))
     all_goals (first | exact hcell _ | skip)
     generalize list.take k=A at *
     generalize list.drop k=B at *
     cases A with
     | nil =>
       simp (disch:=first | omega | decide +kernel) only [List.map_nil,List.map_cons,go_sem,Qa,Qb,Qc,Qd,Qe,↓reduceIte,reduceCtorEq,Qf,Qg,Qh]
       (repeat' (first | ((first | (refine xa0 ?_ ?_<;>intro q'<;>(have h':=q')<;>(try simp only [zz] at h')))<;>(try simp (disch:=first | omega | decide +kernel) only [q',List.map_nil,List.map_cons,go_sem,Qa,Qb,Qc,Qd,Qe,↓reduceIte,reduceCtorEq,Qf,Qg,Qh])<;>clear q') | refine hN _ ?_ ?_ Wk.kk | (with_reducible first | refine And.intro ?_ ?_ | omega) | exact xb8 | exact xa8 | exact xa6 | with_reducible exact xa7 | (refine xa1 ?_; omega) | (refine za9 ⟨?_,?_⟩) | (simp only [go_sem,Qc,Qb,zb1,zb2,forall_eq]; done)))
       all_goals (first | exact hok _ | exact hok _ _ (by simp) | (refine xa1 ?_; simp only [List.length_nil,List.length_cons,List.length_map,List.length_append] at hA ⊢; omega) | (simp only [List.length_nil,List.length_cons,List.length_map,List.length_append] at hA ⊢; omega) | exact yt5 [29] rfl | skip)
     | cons a A =>
       simp only [List.cons_append,List.map_cons,List.map_append]
       simp (disch:=first | omega | decide +kernel) only [List.map_nil,List.map_cons,go_sem,Qa,Qb,Qc,Qd,Qe,↓reduceIte,reduceCtorEq,Qf,Qg,Qh]
       (repeat' (first | ((first | (refine xa0 ?_ ?_<;>intro q'<;>(have h':=q')<;>(try simp only [zz] at h')))<;>(try simp (disch:=first | omega | decide +kernel) only [q',List.map_nil,List.map_cons,go_sem,Qa,Qb,Qc,Qd,Qe,↓reduceIte,reduceCtorEq,Qf,Qg,Qh])<;>clear q') | refine hN _ ?_ ?_ Wk.kk | (with_reducible first | refine And.intro ?_ ?_ | omega) | exact xb8 | exact xa8 | exact xa6 | with_reducible exact xa7 | (refine xa1 ?_; omega) | (refine za9 ⟨?_,?_⟩) | (simp only [go_sem,Qc,Qb,zb1,zb2,forall_eq]; done)))
       all_goals (first | exact hok _ | exact hok [a] _ (by simp) | (refine xa1 ?_; simp only [List.length_nil,List.length_cons,List.length_map,List.length_append] at hA ⊢; omega) | (simp only [List.length_nil,List.length_cons,List.length_map,List.length_append] at hA ⊢; omega) | (simp only [List.append_assoc,List.singleton_append]; exact yt5 [26] rfl) | skip)
 . rw [if_neg fun h => hk h.1]
   refine Ctr.of (n:=34) (rs:=[.tmp 4]) Tryz.func82 rfl rfl Tryz.ntmps82 rfl rfl (by kernel_rfl) Tryz.checked.mixed ?_
   simp (disch:=first | omega | decide +kernel) only [D.ints,eD,go_sem,Qa,Qb,Qc,Qd,Qe,↓reduceIte,reduceCtorEq,Qf,Qg,Qh]
   (repeat' (first | ((first | (refine xa0 ?_ ?_<;>intro q'<;>(have h':=q')<;>(try simp only [zz] at h')) | (have q':=trivial; first | refine xa3 (c1) rfl (by decide) ?_ | refine xa4 (c1) rfl ?_))<;>(try simp (disch:=first | omega | decide +kernel) only [q',D.ints,eD,go_sem,Qa,Qb,Qc,Qd,Qe,↓reduceIte,reduceCtorEq,Qf,Qg,Qh])<;>clear q') | refine hN _ ?_ ?_ Wk.kk | (with_reducible first | refine And.intro ?_ ?_ | omega) | exact xb8 | exact xa8 | exact xa6 | with_reducible exact xa7 | (refine xa1 ?_; omega) | (refine za9 ⟨?_,?_⟩) | (simp only [go_sem,Qc,Qb,zb1,zb2,forall_eq]; done)))
   all_goals (first | exact hcell _ | skip)
   generalize list.take k=A at *
   generalize list.drop k=B at *
   cases A with
   | nil =>
     simp (disch:=first | omega | decide +kernel) only [List.map_nil,List.map_cons,go_sem,Qa,Qb,Qc,Qd,Qe,↓reduceIte,reduceCtorEq,Qf,Qg,Qh]
     (repeat' (first | ((first | (refine xa0 ?_ ?_<;>intro q'<;>(have h':=q')<;>(try simp only [zz] at h')))<;>(try simp (disch:=first | omega | decide +kernel) only [q',List.map_nil,List.map_cons,go_sem,Qa,Qb,Qc,Qd,Qe,↓reduceIte,reduceCtorEq,Qf,Qg,Qh])<;>clear q') | refine hN _ ?_ ?_ Wk.kk | (with_reducible first | refine And.intro ?_ ?_ | omega) | exact xb8 | exact xa8 | exact xa6 | with_reducible exact xa7 | (refine xa1 ?_; omega) | (refine za9 ⟨?_,?_⟩) | (simp only [go_sem,Qc,Qb,zb1,zb2,forall_eq]; done)))
     all_goals (first | exact hok _ | exact hok _ _ (by simp) | (refine xa1 ?_; simp only [List.length_nil,List.length_cons,List.length_map,List.length_append] at hA ⊢; omega) | (simp only [List.length_nil,List.length_cons,List.length_map,List.length_append] at hA ⊢; omega) | exact yt5 [29] rfl | skip)
      | cons a A =>
     simp only [List.cons_append,List.map_cons,List.map_append]
     simp (disch:=first | omega | decide +kernel) only [List.map_nil,List.map_cons,go_sem,Qa,Qb,Qc,Qd,Qe,↓reduceIte,reduceCtorEq,Qf,Qg,Qh]
     (repeat' (first | ((first | (refine xa0 ?_ ?_<;>intro q'<;>(have h':=q')<;>(try simp only [zz] at h')<;>try (exfalso; omega)))<;>(try simp (disch:=first | omega | decide +kernel) only [q',List.map_nil,List.map_cons,go_sem,Qa,Qb,Qc,Qd,Qe,↓reduceIte,reduceCtorEq,Qf,Qg,Qh])<;>clear q') | (with_reducible first | refine And.intro ?_ ?_ | omega) | exact xa6 | (refine xa1 ?_; omega) | (refine za9 ⟨?_,?_⟩) | (simp only [go_sem,Qc,Qb,zb1,zb2,forall_eq]; done)))
     all_goals (first | exact hok _ | exact hok [a] _ (by simp) | (refine xa1 ?_; simp only [List.length_nil,List.length_cons,List.length_map,List.length_append] at hA ⊢; omega) | (simp only [List.length_nil,List.length_cons,List.length_map,List.length_append] at hA ⊢; omega) | (simp only [List.append_assoc,List.singleton_append]; exact yt5 [26] rfl) | skip)
end Abs.Y
