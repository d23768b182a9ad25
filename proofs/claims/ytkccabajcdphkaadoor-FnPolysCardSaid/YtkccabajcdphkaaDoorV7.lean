/- What functions of this program compute, over plain data. No condition. -/
import Derived.Test.YtkccabajcdphkaaDoorAbsRow
import Derived.Test.YtkccabajcdphkaaDoorG4
import Derived.Test.YtkccabajcdphkaaDoorAbsOwn
import Derived.Test.YtkccabajcdphkaaDoorV5
set_option linter.all false
open Nat renaming reduceEqDiff -> Qa, reduceLT -> Qb, reduceAdd -> Qc, reduceMul -> Qd, reduceSub -> Qe, reduceLeDiff -> Qf, reduceSubDiff -> Qg, reduceBEq -> Qh
open Bool renaming not_eq_true' -> Ba, not_eq_false' -> Bb, and_eq_true -> Bc, or_eq_true -> Bh, or_eq_false_iff -> Be
open Int renaming ofNat_lt -> Ia, ofNat_le -> Ib, not_lt -> Ic, not_le -> Ie
open Decidable renaming not_not -> Da
namespace Abs

def szL {α : Type} (f : α->Int->Int) : List α->Int->Int
 | [],left => left
 | x :: r,left => if f x left < 0 then -1 else szL f r (f x left)
def szS {α : Type} (f : α->Int->Int) (a : List α) (left : Int) : Int:=if left - a.length < 0 then -1 else szL f a (left - a.length)
def szI (a : List Int) (left : Int) : Int:=if left - a.length < 0 then -1 else left - a.length
def SzF {α : Type} (f : α->Int->Int) : Prop:=∀ x left,0<=left->f x left=-1∨(0<=f x left∧f x left<=left)
end Abs

namespace Abs.Y
open Go Go.Proofs Abs
set_option maxRecDepth 100000

end Abs.Y

namespace Abs.Y
open Go Go.Proofs Abs
set_option maxRecDepth 100000

end Abs.Y

namespace Abs
open Go Go.Proofs
theorem ret_cbd {P : Program} {a j u : Nat} {t e : TypeId} {cells : List AV} {ds : List D} {y : D} {st : St} (h : lk a st.s=some (.p j 0)) (h' : lk u st.s=some (.d y)) (hj : lk j st.o=some (.box e cells)) (hag : aggT P t=true) (hn : P.cellsOf t=cells.length) (hd : allD cells=some ds)
 (hu : (P.underlying t).isSome=true) (hp : (D.agg ds).plain=true) (hy : y.plain=true) : retQ P [.cell a t,.tmp u] false (.tup [.d (.agg ds),.d y]) [] .ret st:=by
 refine .inl ?_
 have hl : (lk a st.s).bind (loadV P st.o t)=some (0 + P.cellsOf t<=cells.length∧(P.underlying t).isSome=true,.d (.agg ds)):=by
  rw [h,Option.bind_some,loadV,hj]
  simp only [hag,if_true,List.drop_zero,hn,List.take_length,hd]
 simp only [retO,resV,hl,h']
 exact ⟨⟨hu,⟨by omega,hu⟩,trivial⟩,.nil rfl,.inr ⟨⟨hp,hy,trivial⟩,trivial⟩⟩
end Abs
namespace Abs.Y
open Go Go.Proofs Abs
set_option maxRecDepth 100000

structure Pl where
 co : List Int
 bd : Int
deriving DecidableEq
@[reducible] def D.pl (p : Pl) : D:=.agg [.ints p.co,.int .i64 p.bd]
def plS (p : Pl) (l : Int) : Pl:=if 0 < l then ⟨p.co.set (l - 1).toNat 1,p.bd⟩ else ⟨p.co.set (0 - l - 1).toNat (-1),p.bd - 1⟩
def planI (u : Int) (c : List Int) : Pl:=c.foldl plS ⟨List.replicate u.toNat 0,1⟩
def Bd (n : Int) (p : Pl) : Prop:=(∀ j,-n<=p.co.getD j 0∧p.co.getD j 0<=n)∧-n<=p.bd∧p.bd<=n
def Lits (u : Int) (c : List Int) : Prop:=0<=u∧u<=12∧∀ x ∈ c,x ≠ 0∧-u<=x∧x<=u
def sgl (u v n b : Int) : Pl:=⟨(List.replicate u.toNat 0).set (v - 1).toNat n,b⟩
def litI (u l : Int) : Pl:=if 0 < l then sgl u l 1 0 else sgl u (0 - l) (-1) (-1)
def zipL (F : Int->Int->Int) (a b : List Int) : List Int:=(List.range a.length).map fun i => F (a.getD i 0) (b.getD i 0)
def zipP (F : Int->Int->Int) (q r : Pl) : Pl:=⟨zipL F q.co r.co,F q.bd r.bd⟩
def addP (q r : Pl) : Pl:=zipP (· + ·) q r
end Abs.Y

namespace Abs.Y
open Go Go.Proofs Abs
set_option maxRecDepth 100000

def primeB (p v : Int) : Bool:=((decide (p=2) || decide (p=3)) || decide (p=5)) && (decide (0<=v) && decide (v<=6))
theorem primeB_of {p v : Int} (h : primeB p v=true) : (1 < p∧p<=5)∧0<=v∧v<=6:=by
 simp only [primeB,Bc,Bh,decide_eq_true_eq] at h
 omega
theorem l18Prime_ok (p v : Int) : Ctr Tryd.prog 82 [.int .i64 p,.int .i64 v] false (.d (.bool (primeB p v))) []:=by
 have c1:=l1In_ok v 0 6
 unfold primeB
 refine Ctr.of (n:=19) (rs:=[.tmp 4]) Tryd.func82 rfl rfl Tryd.ntmps82 rfl rfl (by kernel_rfl) Tryd.checked.mixed ?_
 simp (disch:=first | omega | decide +kernel) only [go_sem,Qa,Qb,Qc,Qd,Qe,↓reduceIte,reduceCtorEq,Qf,Qg,Qh]
 (repeat' (first | ((first | (refine gsel_split (fun q' => ?_) (fun q' => ?_)<;>(have h':=q')<;>(try simp only [za1,za2,Ba,Bb,za3,ne_eq,za4,za5,za6,Ia,Ib,Ic,Ie,Da,Bc,Bh,Be,za7,za8] at h')<;>try (exfalso; omega)) | (have q':=trivial; first | refine callX_new (c1) rfl (by decide) ?_ | refine callY_new (c1) rfl ?_ | refine hE _ _ ret_ne ?_ | refine hE _ _ exit_ne ?_))<;>(try simp (disch:=first | omega | decide +kernel) only [q',go_sem,Qa,Qb,Qc,Qd,Qe,↓reduceIte,reduceCtorEq,Qf,Qg,Qh])<;>clear q') | refine hN _ ?_ ?_ Wk.kk | with_reducible refine And.intro ?_ ?_ | with_reducible omega | exact ok_ints | exact cells_ints | exact no_mem | with_reducible exact plain_ints | (refine le_maxLen ?_; omega) | (refine za9 ⟨?_,?_⟩) | (simp only [go_sem,Qc,Qb,zb1,zb2,forall_eq]; done)))
 all_goals (first | omega | (simp_all [D.plain]; done))
theorem ringOf_ok (p v : Int) : Ctr Tryd.prog 65 [.int .i64 p,.int .i64 v] false (.tup [.d (.agg [.int .i64 p,.int .i64 v]),.d (.bool (primeB p v))]) []:=by
 have c1:=within_ok v 0 6
 have hb : ((decide (p=2) || decide (p=3)) || decide (p=5))=decide (p=2∨p=3∨p=5):=by
  by_cases h1 : p=2<;>by_cases h2 : p=3<;>by_cases h3 : p=5<;>simp [h1,h2,h3]
 unfold primeB
 rw [hb]
 by_cases hq : p=2∨p=3∨p=5
 . rw [decide_eq_true hq,Bool.true_and]
   generalize (decide (0<=v) && decide (v<=6))=b at *
   refine Ctr.of (n:=23) (rs:=[.cell 4 77,.tmp 5]) Tryd.func65 rfl rfl Tryd.ntmps65 rfl rfl (by kernel_rfl) Tryd.checked.mixed ?_
   simp (disch:=first | omega | decide +kernel) only [go_sem,Qa,Qb,Qc,Qd,Qe,↓reduceIte,reduceCtorEq,Qf,Qg,Qh]
   (repeat' (first | ((first | (refine gsel_split (fun q' => ?_) (fun q' => ?_)<;>(have h':=q')<;>(try simp only [za1,za2,Ba,Bb,za3,ne_eq,za4,za5,za6,Ia,Ib,Ic,Ie,Da,Bc,Bh,Be,za7,za8] at h')<;>try (exfalso; omega)) | (have q':=trivial; first | refine callX_new (c1) rfl (by decide) ?_ | refine callY_new (c1) rfl ?_ | refine hE _ _ ret_ne ?_ | refine hE _ _ exit_ne ?_))<;>(try simp (disch:=first | omega | decide +kernel) only [q',go_sem,Qa,Qb,Qc,Qd,Qe,↓reduceIte,reduceCtorEq,Qf,Qg,Qh])<;>clear q') | refine hN _ ?_ ?_ Wk.kk | with_reducible refine And.intro ?_ ?_ | with_reducible omega | exact ok_ints | exact cells_ints | exact no_mem | with_reducible exact plain_ints | (refine le_maxLen ?_; omega) | (refine za9 ⟨?_,?_⟩) | (simp only [go_sem,Qc,Qb,zb1,zb2,forall_eq]; done)))
   all_goals (first | omega | exact ret_cbd rfl rfl rfl (by simp only [go_sem]) (by simp only [go_sem,List.length_cons,List.length_nil]) rfl (by simp only [go_sem]) rfl rfl)
 . rw [decide_eq_false hq,Bool.false_and]
   refine Ctr.of (n:=23) (rs:=[.cell 4 77,.tmp 5]) Tryd.func65 rfl rfl Tryd.ntmps65 rfl rfl (by kernel_rfl) Tryd.checked.mixed ?_
   simp (disch:=first | omega | decide +kernel) only [go_sem,Qa,Qb,Qc,Qd,Qe,↓reduceIte,reduceCtorEq,Qf,Qg,Qh]
   (repeat' (first | ((first | (refine gsel_split (fun q' => ?_) (fun q' => ?_)<;>(have h':=q')<;>(try simp only [za1,za2,Ba,Bb,za3,ne_eq,za4,za5,za6,Ia,Ib,Ic,Ie,Da,Bc,Bh,Be,za7,za8] at h')<;>try (exfalso; omega)) | (have q':=trivial; first | refine hE _ _ ret_ne ?_ | refine hE _ _ exit_ne ?_))<;>(try simp (disch:=first | omega | decide +kernel) only [q',go_sem,Qa,Qb,Qc,Qd,Qe,↓reduceIte,reduceCtorEq,Qf,Qg,Qh])<;>clear q') | refine hN _ ?_ ?_ Wk.kk | with_reducible refine And.intro ?_ ?_ | with_reducible omega | exact ok_ints | exact cells_ints | exact no_mem | with_reducible exact plain_ints | (refine le_maxLen ?_; omega) | (refine za9 ⟨?_,?_⟩) | (simp only [go_sem,Qc,Qb,zb1,zb2,forall_eq]; done)))
   all_goals (first | omega | exact ret_cbd rfl rfl rfl (by simp only [go_sem]) (by simp only [go_sem,List.length_cons,List.length_nil]) rfl (by simp only [go_sem]) rfl rfl)
def okTm (p : Int) (n : Nat) (a : List (Int × Int)) (i : Nat) : Bool :=
 ((decide (0 <= (a.getD i (0, 0)).1) && decide ((a.getD i (0, 0)).1 <= (n : Int) - 1)) && (decide (1 <= (a.getD i (0, 0)).2) && decide ((a.getD i (0, 0)).2 <= p - 1))) &&
   (decide (i=0) || decide ((a.getD (i - 1) (0,0)).1 < (a.getD i (0,0)).1))
def isT (p : Int) (n : Nat) (a : List (Int × Int)) : Bool:=(List.range a.length).all (okTm p n a)
theorem isT_bad {p : Int} {n : Nat} {a : List (Int × Int)} {i : Nat} (h : i < a.length) (h' : okTm p n a i=false) : isT p n a=false:=by
 rw [isT,List.all_eq_false]
 exact ⟨i,List.mem_range.2 h,by rw [h']; simp⟩
theorem isT_good {p : Int} {n : Nat} {a : List (Int × Int)} (h : ∀ j,j < a.length->okTm p n a j=true) : isT p n a=true:=by
 rw [isT,List.all_eq_true]
 exact fun j hj => h j (List.mem_range.1 hj)
theorem bitsOk_ok {u : Nat} (hu : u<=6) (m : Int) : Ctr Tryd.prog 80 [.int .i64 u,.int .i64 m] false (.d (.bool (decide (0<=m) && decide (m<=((2 ^ u : Nat) : Int) - 1)))) []:=by
 have h2:=pow_le6 hu
 have e : IntKind.wrap .i64 (1 * 2 ^ min u 64)=((2 ^ u : Nat) : Int):=shl_one (by omega)
 have c1:=within_ok m 0 (((2 ^ u : Nat) : Int) - 1)
 generalize 2 ^ u=n at *
 refine Ctr.of (n:=10) (rs:=[.tmp 4]) Tryd.func80 rfl rfl Tryd.ntmps80 rfl rfl (by kernel_rfl) Tryd.checked.mixed ?_
 simp (disch:=first | omega | decide +kernel) only [e,go_sem,Qa,Qb,Qc,Qd,Qe,↓reduceIte,reduceCtorEq,Qf,Qg,Qh]
 (repeat' (first | ((first | (refine gsel_split (fun q' => ?_) (fun q' => ?_)<;>(have h':=q')<;>(try simp only [za1,za2,Ba,Bb,za3,ne_eq,za4,za5,za6,Ia,Ib,Ic,Ie,Da,Bc,Bh,Be,za7,za8] at h')<;>try (exfalso; omega)) | (have q':=trivial; first | refine callX_new (c1) rfl (by decide) ?_ | refine callY_new (c1) rfl ?_ | refine hE _ _ ret_ne ?_ | refine hE _ _ exit_ne ?_))<;>(try simp (disch:=first | omega | decide +kernel) only [q',e,go_sem,Qa,Qb,Qc,Qd,Qe,↓reduceIte,reduceCtorEq,Qf,Qg,Qh])<;>clear q') | refine hN _ ?_ ?_ Wk.kk | with_reducible refine And.intro ?_ ?_ | with_reducible omega | exact ok_ints | exact cells_ints | exact no_mem | with_reducible exact plain_ints | (refine le_maxLen ?_; omega) | (refine za9 ⟨?_,?_⟩) | (simp only [go_sem,Qc,Qb,zb1,zb2,forall_eq]; done)))
 all_goals (first | omega)
section
variable {p : Int} {u : Nat} (hp : 1 < p∧p<=5) (hu : u<=6)
include hp hu
set_option maxHeartbeats 4000000 in
theorem is_ok {a : List (Int × Int)} (hl : a.length<=4294967296) : Ctr Tryd.prog 66 [D.ring p u,D.tms a] false (.d (.bool (isT p (2 ^ u) a))) []:=by
 have h2:=pow_le6 hu
 have c0:=fun m => bitsOk_ok hu m
 generalize 2 ^ u=n at *
 refine Ctr.of (n:=45) (rs:=[.tmp 4]) Tryd.func66 rfl rfl Tryd.ntmps66 rfl rfl (by kernel_rfl) Tryd.checked.mixed ?_
 simp (disch:=first | omega | decide +kernel) only [go_sem,Qa,Qb,Qc,Qd,Qe,↓reduceIte,reduceCtorEq,Qf,Qg,Qh]
 (repeat' (first | ((first | (refine gsel_split (fun q' => ?_) (fun q' => ?_)<;>(have h':=q')<;>(try simp only [za1,za2,Ba,Bb,za3,ne_eq,za4,za5,za6,Ia,Ib,Ic,Ie,Da,Bc,Bh,Be,za7,za8] at h')<;>try (exfalso; omega)) | (have q':=trivial; first | refine hE _ _ ret_ne ?_ | refine hE _ _ exit_ne ?_))<;>(try simp (disch:=first | omega | decide +kernel) only [q',go_sem,Qa,Qb,Qc,Qd,Qe,↓reduceIte,reduceCtorEq,Qf,Qg,Qh])<;>clear q') | refine hN _ ?_ ?_ Wk.kk | with_reducible refine And.intro ?_ ?_ | with_reducible omega | exact ok_ints | exact cells_ints | exact no_mem | with_reducible exact plain_ints | (refine le_maxLen ?_; omega) | (refine za9 ⟨?_,?_⟩) | (simp only [go_sem,Qc,Qb,zb1,zb2,forall_eq]; done)))
 refine Ok.loopN [44,43,42,41,40,39,38,37,36,35,34,33,32,31,30,29,28,27,26,25,24,23,22,21,20,19,18,17,16,15,14,13,12,11,10,9,6,5,4,3,0] (fun i _ => [(9,.d (.int .i64 (i : Nat)))]) (fun _ _ => []) a.length
  (fun i (_ : Unit) => ∀ j,j < i->okTm p n a j=true) () (by simp) (Wk.kk) ?_
 rintro R i ⟨⟩ hN hE hi hI
 by_cases hlt : i < a.length
 . have hea:=el_tm hlt
   have c1:=c0 (a.getD i (0,0)).1
   have c2:=within_ok (a.getD i (0,0)).2 1 (p - 1)
   have hgood : okTm p n a i=true->∀ j,j < i + 1->okTm p n a j=true:=fun h j hj => by
    by_cases e : j=i
    . rw [e]; exact h
    . exact hI j (by omega)
   have hbad : okTm p n a i=false->isT p n a=false:=isT_bad hlt
   unfold okTm at hgood hbad
   clear hI c0
   by_cases h0 : i=0
   . subst h0
     generalize (a.getD 0 (0,0)).1=m at *
     generalize (a.getD 0 (0,0)).2=c at *
     simp (disch:=first | omega | decide +kernel) only [hea,go_sem,Qa,Qb,Qc,Qd,Qe,↓reduceIte,reduceCtorEq,Qf,Qg,Qh]
     (repeat' (first | ((first | (refine gsel_split (fun q' => ?_) (fun q' => ?_)<;>(have h':=q')<;>(try simp only [za1,za2,Ba,Bb,za3,ne_eq,za4,za5,za6,Ia,Ib,Ic,Ie,Da,Bc,Bh,Be,za7,za8] at h')<;>try (exfalso; omega)) | (have q':=trivial; first | refine callX_new (c1) rfl (by decide) ?_ | refine callY_new (c1) rfl ?_ | refine callX_new (c2) rfl (by decide) ?_ | refine callY_new (c2) rfl ?_ | refine hE _ _ ret_ne ?_ | refine hE _ _ exit_ne ?_))<;>(try simp (disch:=first | omega | decide +kernel) only [q',hea,go_sem,Qa,Qb,Qc,Qd,Qe,↓reduceIte,reduceCtorEq,Qf,Qg,Qh])<;>clear q') | refine hN _ ?_ ?_ Wk.kk | with_reducible refine And.intro ?_ ?_ | with_reducible omega | exact ok_ints | exact cells_ints | exact no_mem | with_reducible exact plain_ints | (refine le_maxLen ?_; omega) | (refine za9 ⟨?_,?_⟩) | (simp only [go_sem,Qc,Qb,zb1,zb2,forall_eq]; done)))
     all_goals (first | omega | (refine hN () _ hlt (hgood (by simp_all<;>(intros; omega))) (by refine Wk.auto ?_ ?_<;>simp [extraK,lk,killL,St.kill,wipeO,wipeS,AV.has,AV.hasL,AO.wipe,List.map_set,updSt,insL,dropS,ins,]); done) | (rw [hbad (by simp_all<;>(intros; omega))]; exact ⟨rfl,rfl⟩) | (rw [hbad (by simp_all<;>(intros; omega))]; done))
   . have heb:=el_tm (xs:=a) (i:=i - 1) (by omega)
     have hti : (i : Int) - 1=((i - 1 : Nat) : Int):=by omega
     have htw : IntKind.i64.wrap ((i - 1 : Nat) : Int)=((i - 1 : Nat) : Int):=wrap_of (by omega)
     generalize (a.getD (i - 1) (0,0)).1=m0 at *
     generalize (a.getD (i - 1) (0,0)).2=d0 at *
     generalize (a.getD i (0,0)).1=m at *
     generalize (a.getD i (0,0)).2=c at *
     simp (disch:=first | omega | decide +kernel) only [hea,heb,hti,htw,go_sem,Qa,Qb,Qc,Qd,Qe,↓reduceIte,reduceCtorEq,Qf,Qg,Qh]
     (repeat' (first | ((first | (refine gsel_split (fun q' => ?_) (fun q' => ?_)<;>(have h':=q')<;>(try simp only [za1,za2,Ba,Bb,za3,ne_eq,za4,za5,za6,Ia,Ib,Ic,Ie,Da,Bc,Bh,Be,za7,za8] at h')<;>try (exfalso; omega)) | (have q':=trivial; first | refine callX_new (c1) rfl (by decide) ?_ | refine callY_new (c1) rfl ?_ | refine callX_new (c2) rfl (by decide) ?_ | refine callY_new (c2) rfl ?_ | refine hE _ _ ret_ne ?_ | refine hE _ _ exit_ne ?_))<;>(try simp (disch:=first | omega | decide +kernel) only [q',hea,heb,hti,htw,go_sem,Qa,Qb,Qc,Qd,Qe,↓reduceIte,reduceCtorEq,Qf,Qg,Qh])<;>clear q') | refine hN _ ?_ ?_ Wk.kk | with_reducible refine And.intro ?_ ?_ | with_reducible omega | exact ok_ints | exact cells_ints | exact no_mem | with_reducible exact plain_ints | (refine le_maxLen ?_; omega) | (refine za9 ⟨?_,?_⟩) | (simp only [go_sem,Qc,Qb,zb1,zb2,forall_eq]; done)))
     all_goals (first | omega | (refine hN () _ hlt (hgood (by simp_all<;>(intros; omega))) (by refine Wk.auto ?_ ?_<;>simp [extraK,lk,killL,St.kill,wipeO,wipeS,AV.has,AV.hasL,AO.wipe,List.map_set,updSt,insL,dropS,ins,]); done) | (rw [hbad (by simp_all<;>(intros; omega))]; exact ⟨rfl,rfl⟩) | (rw [hbad (by simp_all<;>(intros; omega))]; done))
 . obtain rfl : i=a.length:=by omega
   have hT:=isT_good (p:=p) (n:=n) hI
   generalize isT p n a=t at *
   subst hT
   simp (disch:=first | omega | decide +kernel) only [go_sem,Qa,Qb,Qc,Qd,Qe,↓reduceIte,reduceCtorEq,Qf,Qg,Qh]
   (repeat' (first | ((first | (refine gsel_split (fun q' => ?_) (fun q' => ?_)<;>(have h':=q')<;>(try simp only [za1,za2,Ba,Bb,za3,ne_eq,za4,za5,za6,Ia,Ib,Ic,Ie,Da,Bc,Bh,Be,za7,za8] at h')<;>try (exfalso; omega)) | (have q':=trivial; first | refine hE _ _ ret_ne ?_ | refine hE _ _ exit_ne ?_))<;>(try simp (disch:=first | omega | decide +kernel) only [q',go_sem,Qa,Qb,Qc,Qd,Qe,↓reduceIte,reduceCtorEq,Qf,Qg,Qh])<;>clear q') | refine hN _ ?_ ?_ Wk.kk | with_reducible refine And.intro ?_ ?_ | with_reducible omega | exact ok_ints | exact cells_ints | exact no_mem | with_reducible exact plain_ints | (refine le_maxLen ?_; omega) | (refine za9 ⟨?_,?_⟩) | (simp only [go_sem,Qc,Qb,zb1,zb2,forall_eq]; done)))
   all_goals (first | omega)
set_option maxHeartbeats 4000000 in
theorem l18Good_ok {a : List (Int × Int)} (hl : a.length<=4294967296) (hpr : primeB p u=true) : Ctr Tryd.prog 73 [.int .i64 p,.int .i64 u,D.tms a] false (.d (.bool (isT p (2 ^ u) a))) []:=by
 have h2:=pow_le6 hu
 have cp:=l18Prime_ok p u
 rw [hpr] at cp
 have e : IntKind.wrap .i64 (1 * 2 ^ min u 64)=((2 ^ u : Nat) : Int):=shl_one (by omega)
 generalize 2 ^ u=n at *
 refine Ctr.of (n:=57) (rs:=[.tmp 6]) Tryd.func73 rfl rfl Tryd.ntmps73 rfl rfl (by kernel_rfl) Tryd.checked.mixed ?_
 simp (disch:=first | omega | decide +kernel) only [go_sem,Qa,Qb,Qc,Qd,Qe,↓reduceIte,reduceCtorEq,Qf,Qg,Qh]
 (repeat' (first | ((first | (refine gsel_split (fun q' => ?_) (fun q' => ?_)<;>(have h':=q')<;>(try simp only [za1,za2,Ba,Bb,za3,ne_eq,za4,za5,za6,Ia,Ib,Ic,Ie,Da,Bc,Bh,Be,za7,za8] at h')<;>try (exfalso; omega)) | (have q':=trivial; first | refine callX_new (cp) rfl (by decide) ?_ | refine callY_new (cp) rfl ?_ | refine hE _ _ ret_ne ?_ | refine hE _ _ exit_ne ?_))<;>(try simp (disch:=first | omega | decide +kernel) only [q',go_sem,Qa,Qb,Qc,Qd,Qe,↓reduceIte,reduceCtorEq,Qf,Qg,Qh])<;>clear q') | refine hN _ ?_ ?_ Wk.kk | with_reducible refine And.intro ?_ ?_ | with_reducible omega | exact ok_ints | exact cells_ints | exact no_mem | with_reducible exact plain_ints | (refine le_maxLen ?_; omega) | (refine za9 ⟨?_,?_⟩) | (simp only [go_sem,Qc,Qb,zb1,zb2,forall_eq]; done)))
 refine Ok.loopN [56,55,54,53,52,51,50,49,48,47,46,45,44,43,42,41,40,39,38,37,36,35,34,33,32,31,30,29,28,27,26,25,24,23,22,21,20,19,18,17,16,15,14,13,12,11,10,9,8,7,6,5,4,3] (fun i _ => [(7,.d (.int .i64 (i : Nat)))]) (fun _ _ => []) a.length
  (fun i (_ : Unit) => ∀ j,j < i->okTm p n a j=true) () (by simp) (Wk.kk) ?_
 rintro R i ⟨⟩ hN hE hi hI
 by_cases hlt : i < a.length
 . have hea:=el_tm hlt
   have c1:=l1In_ok (a.getD i (0,0)).1 0 ((n : Int) - 1)
   have c2:=l1In_ok (a.getD i (0,0)).2 1 (p - 1)
   have hgood : okTm p n a i=true->∀ j,j < i + 1->okTm p n a j=true:=fun h j hj => by
    by_cases e : j=i
    . rw [e]; exact h
    . exact hI j (by omega)
   have hbad : okTm p n a i=false->isT p n a=false:=isT_bad hlt
   unfold okTm at hgood hbad
   clear hI
   by_cases h0 : i=0
   . subst h0
     generalize (a.getD 0 (0,0)).1=m at *
     generalize (a.getD 0 (0,0)).2=c at *
     simp (disch:=first | omega | decide +kernel) only [hea,e,go_sem,Qa,Qb,Qc,Qd,Qe,↓reduceIte,reduceCtorEq,Qf,Qg,Qh]
     (repeat' (first | ((first | (refine gsel_split (fun q' => ?_) (fun q' => ?_)<;>(have h':=q')<;>(try simp only [za1,za2,Ba,Bb,za3,ne_eq,za4,za5,za6,Ia,Ib,Ic,Ie,Da,Bc,Bh,Be,za7,za8] at h')<;>try (exfalso; omega)) | (have q':=trivial; first | refine callX_new (c1) rfl (by decide) ?_ | refine callY_new (c1) rfl ?_ | refine callX_new (c2) rfl (by decide) ?_ | refine callY_new (c2) rfl ?_ | refine hE _ _ ret_ne ?_ | refine hE _ _ exit_ne ?_))<;>(try simp (disch:=first | omega | decide +kernel) only [q',hea,e,go_sem,Qa,Qb,Qc,Qd,Qe,↓reduceIte,reduceCtorEq,Qf,Qg,Qh])<;>clear q') | refine hN _ ?_ ?_ Wk.kk | with_reducible refine And.intro ?_ ?_ | with_reducible omega | exact ok_ints | exact cells_ints | exact no_mem | with_reducible exact plain_ints | (refine le_maxLen ?_; omega) | (refine za9 ⟨?_,?_⟩) | (simp only [go_sem,Qc,Qb,zb1,zb2,forall_eq]; done)))
     all_goals (first | omega | (refine hN () _ hlt (hgood (by simp_all<;>(intros; omega))) (by refine Wk.auto ?_ ?_<;>simp [extraK,lk,killL,St.kill,wipeO,wipeS,AV.has,AV.hasL,AO.wipe,List.map_set,updSt,insL,dropS,ins,]); done) | (rw [hbad (by simp_all<;>(intros; omega))]; exact ⟨rfl,rfl⟩) | (rw [hbad (by simp_all<;>(intros; omega))]; done))
   . have heb:=el_tm (xs:=a) (i:=i - 1) (by omega)
     have hti : (i : Int) - 1=((i - 1 : Nat) : Int):=by omega
     have htw : IntKind.i64.wrap ((i - 1 : Nat) : Int)=((i - 1 : Nat) : Int):=wrap_of (by omega)
     generalize (a.getD (i - 1) (0,0)).1=m0 at *
     generalize (a.getD (i - 1) (0,0)).2=d0 at *
     generalize (a.getD i (0,0)).1=m at *
     generalize (a.getD i (0,0)).2=c at *
     simp (disch:=first | omega | decide +kernel) only [hea,heb,hti,htw,e,go_sem,Qa,Qb,Qc,Qd,Qe,↓reduceIte,reduceCtorEq,Qf,Qg,Qh]
     (repeat' (first | ((first | (refine gsel_split (fun q' => ?_) (fun q' => ?_)<;>(have h':=q')<;>(try simp only [za1,za2,Ba,Bb,za3,ne_eq,za4,za5,za6,Ia,Ib,Ic,Ie,Da,Bc,Bh,Be,za7,za8] at h')<;>try (exfalso; omega)) | (have q':=trivial; first | refine callX_new (c1) rfl (by decide) ?_ | refine callY_new (c1) rfl ?_ | refine callX_new (c2) rfl (by decide) ?_ | refine callY_new (c2) rfl ?_ | refine hE _ _ ret_ne ?_ | refine hE _ _ exit_ne ?_))<;>(try simp (disch:=first | omega | decide +kernel) only [q',hea,heb,hti,htw,e,go_sem,Qa,Qb,Qc,Qd,Qe,↓reduceIte,reduceCtorEq,Qf,Qg,Qh])<;>clear q') | refine hN _ ?_ ?_ Wk.kk | with_reducible refine And.intro ?_ ?_ | with_reducible omega | exact ok_ints | exact cells_ints | exact no_mem | with_reducible exact plain_ints | (refine le_maxLen ?_; omega) | (refine za9 ⟨?_,?_⟩) | (simp only [go_sem,Qc,Qb,zb1,zb2,forall_eq]; done)))
     all_goals (first | omega | (refine hN () _ hlt (hgood (by simp_all<;>(intros; omega))) (by refine Wk.auto ?_ ?_<;>simp [extraK,lk,killL,St.kill,wipeO,wipeS,AV.has,AV.hasL,AO.wipe,List.map_set,updSt,insL,dropS,ins,]); done) | (rw [hbad (by simp_all<;>(intros; omega))]; exact ⟨rfl,rfl⟩) | (rw [hbad (by simp_all<;>(intros; omega))]; done))
 . obtain rfl : i=a.length:=by omega
   have hT:=isT_good (p:=p) (n:=n) hI
   generalize isT p n a=t at *
   subst hT
   simp (disch:=first | omega | decide +kernel) only [go_sem,Qa,Qb,Qc,Qd,Qe,↓reduceIte,reduceCtorEq,Qf,Qg,Qh]
   (repeat' (first | ((first | (refine gsel_split (fun q' => ?_) (fun q' => ?_)<;>(have h':=q')<;>(try simp only [za1,za2,Ba,Bb,za3,ne_eq,za4,za5,za6,Ia,Ib,Ic,Ie,Da,Bc,Bh,Be,za7,za8] at h')<;>try (exfalso; omega)) | (have q':=trivial; first | refine hE _ _ ret_ne ?_ | refine hE _ _ exit_ne ?_))<;>(try simp (disch:=first | omega | decide +kernel) only [q',go_sem,Qa,Qb,Qc,Qd,Qe,↓reduceIte,reduceCtorEq,Qf,Qg,Qh])<;>clear q') | refine hN _ ?_ ?_ Wk.kk | with_reducible refine And.intro ?_ ?_ | with_reducible omega | exact ok_ints | exact cells_ints | exact no_mem | with_reducible exact plain_ints | (refine le_maxLen ?_; omega) | (refine za9 ⟨?_,?_⟩) | (simp only [go_sem,Qc,Qb,zb1,zb2,forall_eq]; done)))
   all_goals (first | omega)
end
end Abs.Y

namespace Abs.Y
open Go Go.Proofs Abs
set_option maxRecDepth 100000

theorem isT_elem {p : Int} {n : Nat} {a : List (Int × Int)} (h : isT p n a=true) {i : Nat} (hi : i < a.length) :
 0<=(a.getD i (0,0)).1∧(a.getD i (0,0)).1 < n∧1<=(a.getD i (0,0)).2∧(a.getD i (0,0)).2 < p∧(i=0∨(a.getD (i - 1) (0,0)).1 < (a.getD i (0,0)).1):=by
 have:=List.all_eq_true.1 h i (List.mem_range.2 hi)
 simp only [okTm,Bc,Bh,decide_eq_true_eq] at this
 omega
theorem isT_lt {p : Int} {n : Nat} {a : List (Int × Int)} (h : isT p n a=true) : ∀ j,j < a.length->∀ i,i < j->(a.getD i (0,0)).1 < (a.getD j (0,0)).1
 | 0,_,i,hi => by omega
 | j + 1, hj, i, hi => by
   have h1:=isT_elem h hj
   rw [Nat.add_sub_cancel] at h1
   by_cases e : i=j
   . subst e; omega
   . have:=isT_lt h j (by omega) i (by omega)
     omega
theorem isT_tms {p : Int} {n : Nat} {a : List (Int × Int)} (h : isT p n a=true) : Tms p n a:=fun t ht => by
 obtain ⟨i,hi,rfl⟩:=mem_getD (0,0) ht
 have:=isT_elem h hi
 omega
theorem isT_pw {p : Int} {n : Nat} {a : List (Int × Int)} (h : isT p n a=true) : a.Pairwise fun s t => s.1 < t.1:=by
 rw [List.pairwise_iff_getElem]
 intro i j hi hj hij
 have:=isT_lt h j hj i hij
 rwa [List.getD_eq_getElem?_getD,List.getD_eq_getElem?_getD,List.getElem?_eq_getElem hi,List.getElem?_eq_getElem hj] at this
theorem inc_ext : ∀ {l l' : List (Int × Int)},(l.Pairwise fun s t => s.1 < t.1)->(l'.Pairwise fun s t => s.1 < t.1)->(∀ x,x ∈ l↔x ∈ l')->l=l'
 | [],[],_,_,_ => rfl
 | [],y :: s,_,_,h => by have:=(h y).2 (by simp); simp at this
 | x :: r,[],_,_,h => by have:=(h x).1 (by simp); simp at this
 | x :: r, y :: s, h1, h2, h => by
   rw [List.pairwise_cons] at h1 h2
   have e : x=y:=by
    rcases List.mem_cons.1 ((h x).1 (by simp)) with e | e
    . exact e
    . rcases List.mem_cons.1 ((h y).2 (by simp)) with e' | e'
      . exact e'.symm
      . have a1:=h2.1 x e
        have a2:=h1.1 y e'
        omega
   subst e
   rw [inc_ext h1.2 h2.2 fun z => ⟨fun hz => ?_,fun hz => ?_⟩]
   . rcases List.mem_cons.1 ((h z).1 (List.mem_cons_of_mem _ hz)) with e | e
     . have:=h1.1 z hz; rw [e] at this; omega
     . exact e
   . rcases List.mem_cons.1 ((h z).2 (List.mem_cons_of_mem _ hz)) with e | e
     . have:=h2.1 z hz; rw [e] at this; omega
     . exact e
theorem fold_get : ∀ (a : List (Int × Int)) (w : List Int) (k : Nat),k < w.length ->
 (∃ t ∈ a,t.1.toNat=k∧(a.foldl (fun v t => v.set t.1.toNat t.2) w).getD k 0=t.2)∨((∀ t ∈ a,t.1.toNat ≠ k)∧(a.foldl (fun v t => v.set t.1.toNat t.2) w).getD k 0=w.getD k 0)
 | [],w,k,_ => .inr ⟨by simp,rfl⟩
 | t :: r, w, k, hk => by
   rcases fold_get r (w.set t.1.toNat t.2) k (by simpa using hk) with ⟨s,hs,h1,h2⟩ | ⟨h1,h2⟩
   . exact .inl ⟨s,List.mem_cons_of_mem _ hs,h1,h2⟩
   . rw [getD_set] at h2
     by_cases e : t.1.toNat=k
     . rw [if_pos ⟨e,hk⟩] at h2
       exact .inl ⟨t,by simp,e,h2⟩
     . rw [if_neg (fun h => e h.1)] at h2
       refine .inr ⟨fun s hs => ?_,h2⟩
       rcases List.mem_cons.1 hs with rfl | hs
       . exact e
       . exact h1 s hs
theorem getD_zero (n k : Nat) : (List.replicate n (0 : Int)).getD k 0=0:=by
 rw [List.getD_eq_getElem?_getD,List.getElem?_replicate]; split<;>rfl
theorem sp_dn {p : Int} {n : Nat} {a : List (Int × Int)} (h : isT p n a=true) : spT (dnT n a)=a:=by
 have hg : ∀ k,k < n->(∃ t ∈ a,t.1.toNat=k∧(dnT n a).getD k 0=t.2)∨((∀ t ∈ a,t.1.toNat ≠ k)∧(dnT n a).getD k 0=0):=fun k hk => by
  have:=fold_get a (List.replicate n 0) k (by simpa using hk)
  rw [getD_zero] at this
  exact this
 have hpw:=isT_pw h
 refine inc_ext ?_ hpw fun z => ⟨fun hz => ?_,fun hz => ?_⟩
 . unfold spT
   rw [List.pairwise_map]
   refine List.Pairwise.filter _ (List.pairwise_lt_range.imp fun h => by simp only; omega)
 . obtain ⟨m,hm,rfl⟩:=List.mem_map.1 hz
   obtain ⟨hm1,hm2⟩:=List.mem_filter.1 hm
   rw [List.mem_range,dnT_len] at hm1
   rw [decide_eq_true_eq] at hm2
   rcases hg m hm1 with ⟨t,ht,e1,e2⟩ | ⟨_,e2⟩
   . have h0:=(isT_tms h t ht).1
     rw [e2]
     have : ((m : Int),t.2)=t:=by rw [← e1,Int.toNat_of_nonneg h0.1]
     rw [this]; exact ht
   . exact absurd e2 hm2
 . obtain ⟨i,hi,hzi⟩:=mem_getD (0,0) hz
   have hzp:=isT_elem h hi
   rw [hzi] at hzp
   have hk : z.1.toNat < n:=by omega
   have hval : (dnT n a).getD z.1.toNat 0=z.2:=by
    rcases hg _ hk with ⟨t,ht,e1,e2⟩ | ⟨h1,_⟩
    . obtain ⟨j,hj,rfl⟩:=mem_getD (0,0) ht
      have htp:=isT_elem h hj
      have : i=j:=by
       rcases Nat.lt_trichotomy i j with e | e | e
       . have:=isT_lt h j hj i e; rw [hzi] at this; omega
       . exact e
       . have:=isT_lt h i hi j e; rw [hzi] at this; omega
      subst this
      rw [e2,hzi]
    . exact absurd rfl (h1 z hz)
   refine List.mem_map.2 ⟨z.1.toNat,List.mem_filter.2 ⟨List.mem_range.2 (by rw [dnT_len]; exact hk),?_⟩,?_⟩
   . rw [decide_eq_true_eq,hval]; omega
   . rw [hval,Int.toNat_of_nonneg hzp.1]
section
variable {p : Int} {u : Nat} (hp : 1 < p∧p<=5) (hu : u<=6)
include hp hu
set_option maxHeartbeats 4000000 in
theorem dense_ok {a : List (Int × Int)} (hl : a.length<=4294967296) (hT : isT p (2 ^ u) a=true) : Ctr Tryd.prog 81 [D.ring p u,D.tms a] false (.sl 0) [(0,.arr 3 1 ((dnT (2 ^ u) a).map (.int .i64)))]:=by
 have h2:=pow_le6 hu
 have hp0 : ¬ p=0:=by omega
 have c1:=zero_ok hp hu
 generalize hG : dnT (2 ^ u) a=G
 generalize 2 ^ u=n at *
 refine Ctr.of (n:=33) (rs:=[.tmp 4]) Tryd.func81 rfl rfl Tryd.ntmps81 rfl rfl (by kernel_rfl) Tryd.checked.mixed ?_
 simp (disch:=first | omega | decide +kernel) only [go_sem,Qa,Qb,Qc,Qd,Qe,↓reduceIte,reduceCtorEq,Qf,Qg,Qh]
 (repeat' (first | ((first | (refine gsel_split (fun q' => ?_) (fun q' => ?_)<;>(have h':=q')<;>(try simp only [za1,za2,Ba,Bb,za3,ne_eq,za4,za5,za6,Ia,Ib,Ic,Ie,Da,Bc,Bh,Be,za7,za8] at h')<;>try (exfalso; omega)) | (have q':=trivial; first | refine callX_new (c1) rfl (by decide) ?_ | refine callY_new (c1) rfl ?_ | refine hE _ _ ret_ne ?_ | refine hE _ _ exit_ne ?_))<;>(try simp (disch:=first | omega | decide +kernel) only [q',go_sem,Qa,Qb,Qc,Qd,Qe,↓reduceIte,reduceCtorEq,Qf,Qg,Qh])<;>clear q') | refine hN _ ?_ ?_ Wk.kk | with_reducible refine And.intro ?_ ?_ | with_reducible omega | exact ok_ints | exact cells_ints | exact no_mem | with_reducible exact plain_ints | (refine le_maxLen ?_; omega) | (refine za9 ⟨?_,?_⟩) | (simp only [go_sem,Qc,Qb,zb1,zb2,forall_eq]; done)))
 refine Ok.loopN [31,30,29,28,27,26,25,24,23,22,21,20,19,18,17,16,15,14,13,12,9,8,7,6,3,1,0] (fun i _ => [(12,.d (.int .i64 (i : Nat)))]) (fun _ (v : List Int) => [(1000000,.arr 3 1 (List.map (D.int .i64) v))]) a.length
  (fun i v => v=(a.take i).foldl (fun v t => v.set t.1.toNat t.2) (List.replicate n 0)∧v.length=n) (List.replicate n 0) ⟨rfl,by simp⟩ (Wk.kk) ?_
 rintro R i v hN hE hi ⟨hv,hvl⟩
 by_cases hlt : i < a.length
 . have ht:=isT_elem hT hlt
   have hs : (a.take (i + 1)).foldl (fun v t => v.set t.1.toNat t.2) (List.replicate n 0)=v.set (a.getD i (0,0)).1.toNat (a.getD i (0,0)).2:=by
    rw [take_succ (0,0) a i hlt,List.foldl_append,← hv]; rfl
   have hz : v.getD (a.getD i (0,0)).1.toNat 0=0:=by
    have hk : (a.getD i (0,0)).1.toNat < n:=by omega
    rcases fold_get (a.take i) (List.replicate n 0) (a.getD i (0,0)).1.toNat (by rw [List.length_replicate]; exact hk) with ⟨t,htm,e1,e2⟩ | ⟨_,e2⟩
    . obtain ⟨j,hj,rfl⟩:=mem_getD (0,0) htm
      rw [List.length_take] at hj
      have hj2 : (a.take i).getD j (0,0)=a.getD j (0,0):=by
       rw [List.getD_eq_getElem?_getD,List.getElem?_take,if_pos (by omega),← List.getD_eq_getElem?_getD]
      rw [hj2] at e1
      have:=isT_lt hT i hlt j (by omega)
      have:=isT_elem hT (i:=j) (by omega)
      omega
    . rw [hv,e2,getD_zero]
   have hes:=el_tm hlt
   clear hv
   generalize a.getD i (0,0)=t at *
   have em : Int.tmod (0 + t.2) p=t.2:=by rw [Int.zero_add,Int.tmod_eq_emod_of_nonneg (by omega),Int.emod_eq_of_lt (by omega) (by omega)]
   have em2 : Int.tmod t.2 p=t.2:=by rw [Int.tmod_eq_emod_of_nonneg (by omega),Int.emod_eq_of_lt (by omega) (by omega)]
   simp (disch:=first | omega | decide +kernel) only [hes,hz,em,Int.zero_add,em2,go_sem,Qa,Qb,Qc,Qd,Qe,↓reduceIte,reduceCtorEq,Qf,Qg,Qh]
   (repeat' (first | ((first | (refine gsel_split (fun q' => ?_) (fun q' => ?_)<;>(have h':=q')<;>(try simp only [za1,za2,Ba,Bb,za3,ne_eq,za4,za5,za6,Ia,Ib,Ic,Ie,Da,Bc,Bh,Be,za7,za8] at h')<;>try (exfalso; omega)) | (have q':=trivial; first | refine hE _ _ ret_ne ?_ | refine hE _ _ exit_ne ?_))<;>(try simp (disch:=first | omega | decide +kernel) only [q',hes,hz,em,Int.zero_add,em2,go_sem,Qa,Qb,Qc,Qd,Qe,↓reduceIte,reduceCtorEq,Qf,Qg,Qh])<;>clear q') | refine hN _ ?_ ?_ Wk.kk | with_reducible refine And.intro ?_ ?_ | with_reducible omega | exact ok_ints | exact cells_ints | exact no_mem | with_reducible exact plain_ints | (refine le_maxLen ?_; omega) | (refine za9 ⟨?_,?_⟩) | (simp only [go_sem,Qc,Qb,zb1,zb2,forall_eq]; done)))
   all_goals (first | omega | (refine hN (v.set t.1.toNat t.2) _ hlt ⟨hs.symm,by simp [hvl]⟩ (by refine Wk.auto ?_ ?_<;>simp [extraK,lk,killL,St.kill,wipeO,wipeS,AV.has,AV.hasL,AO.wipe,List.map_set,updSt,insL,dropS,ins,]); done))
 . obtain rfl : i=a.length:=by omega
   rw [List.take_length] at hv
   have hv2 : v=G:=by rw [hv,← hG]; rfl
   subst hv2
   clear hv
   simp (disch:=first | omega | decide +kernel) only [go_sem,Qa,Qb,Qc,Qd,Qe,↓reduceIte,reduceCtorEq,Qf,Qg,Qh]
   (repeat' (first | ((first | (refine gsel_split (fun q' => ?_) (fun q' => ?_)<;>(have h':=q')<;>(try simp only [za1,za2,Ba,Bb,za3,ne_eq,za4,za5,za6,Ia,Ib,Ic,Ie,Da,Bc,Bh,Be,za7,za8] at h')<;>try (exfalso; omega)) | (have q':=trivial; first | refine hE _ _ ret_ne ?_ | refine hE _ _ exit_ne ?_))<;>(try simp (disch:=first | omega | decide +kernel) only [q',go_sem,Qa,Qb,Qc,Qd,Qe,↓reduceIte,reduceCtorEq,Qf,Qg,Qh])<;>clear q') | refine hN _ ?_ ?_ Wk.kk | with_reducible refine And.intro ?_ ?_ | with_reducible omega | exact ok_ints | exact cells_ints | exact no_mem | with_reducible exact plain_ints | (refine le_maxLen ?_; omega) | (refine za9 ⟨?_,?_⟩) | (simp only [go_sem,Qc,Qb,zb1,zb2,forall_eq]; done)))
   all_goals (first | omega | exact ret_sl 1000000 rfl rfl plain_ints)
end
end Abs.Y
