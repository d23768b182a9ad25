/- What functions of this program compute, over plain data. No condition. -/
import Derived.Test.YtkccabajcdphkaaDoorV7
import Derived.Test.YtkccabajcdphkaaDoorV5
import Derived.Test.YtkccabajcdphkaaDoorG4
set_option linter.all false
open Nat renaming reduceEqDiff -> Qa, reduceLT -> Qb, reduceAdd -> Qc, reduceMul -> Qd, reduceSub -> Qe, reduceLeDiff -> Qf, reduceSubDiff -> Qg, reduceBEq -> Qh
open Bool renaming not_eq_true' -> Ba, not_eq_false' -> Bb, and_eq_true -> Bc, or_eq_true -> Bh, or_eq_false_iff -> Be
open Int renaming ofNat_lt -> Ia, ofNat_le -> Ib, not_lt -> Ic, not_le -> Ie
open Decidable renaming not_not -> Da
namespace Abs
open Go Go.Proofs
def cellD (v : AV) (x : D) : Prop:=v=.d x∨(v=.nilS∧x=.slice [])
def cellsD : List AV->List D->Prop
 | [],[] => True
 | v :: r,x :: s => cellD v x∧cellsD r s
 | _,_ => False
end Abs
namespace Abs.Y
open Go Go.Proofs Abs
set_option maxRecDepth 100000

@[reducible] def D.alg (p : Int) (u : Nat) (cs : List (List Int)) (q : List (List Int)) : D:=.agg [.int .i64 p,.int .i64 u,.int .i64 u,.slice (cs.map D.ints),.slice (q.map D.ints)]
def slotQ (k : Nat) (out : List (List Int)) : AV:=match out with | [] => .nilS | _ :: _ => .sl k
def objQ (k : Nat) (e : TypeId) (out : List (List Int)) (o : List (Nat × AO)) : List (Nat × AO):=match out with | [] => o | x :: r => (k,.arr e 1 ((x :: r).map D.ints)) :: o
def slotF (out : List (List Int)) : AV:=match out with | [] => .nilS | x :: r => .d (.slice ((x :: r).map D.ints))
end Abs.Y

namespace Abs
open Go Go.Proofs
theorem ret_scbdd {P : Program} {a j u v : Nat} {t e : TypeId} {cells : List AV} {ds : List D} {y z : D} {st : St} (js : List Nat) (h : lk a (frzs js st).s=some (.p j 0)) (h' : lk u (frzs js st).s=some (.d y)) (h'' : lk v (frzs js st).s=some (.d z)) (hj : lk j (frzs js st).o=some (.box e cells)) (hag : aggT P t=true) (hn : P.cellsOf t=cells.length) (hd : allD cells=some ds) (hu : (P.underlying t).isSome=true) :
 retQ P [.cell a t,.tmp u,.tmp v] true (.tup [.d (.agg ds),.d y,.d z]) [] .ret st:=by
 refine .inr ⟨rfl,js,?_⟩
 have hl : (lk a (frzs js st).s).bind (loadV P (frzs js st).o t)=some (0 + P.cellsOf t<=cells.length∧(P.underlying t).isSome=true,.d (.agg ds)):=by
  rw [h,Option.bind_some,loadV,hj]
  simp only [hag,if_true,List.drop_zero,hn,List.take_length,hd]
 simp only [retO,resV,hl,h',h'']
 exact ⟨⟨hu,⟨by omega,hu⟩,trivial⟩,.nil rfl,.inl trivial⟩
end Abs
namespace Abs.Y
open Go Go.Proofs Abs
set_option maxRecDepth 100000

def sumQ (p : Int) (u : Nat) (g q : List (List Int)) : List Int:=(List.range g.length).foldl (fun v i => addD p 1 v (mulD p (2 ^ u) (g.getD i []) (q.getD i []))) (List.replicate (2 ^ u) 0)
section
variable {p : Int} {u : Nat} (hp : 1 < p∧p<=5) (hu : u<=6)
include hp hu
end
end Abs.Y

namespace Abs.Y
open Go Go.Proofs Abs
set_option maxRecDepth 100000

theorem el_tms {xs : List (List (Int × Int))} {i : Nat} (h : i < xs.length) : el (xs.map D.tms) i=.slice ((xs.getD i []).map D.tm):=el_map (f:=D.tms) [] h
section
variable {p : Int} {u : Nat} (hp : 1 < p∧p<=5) (hu : u<=6)
include hp hu
set_option maxHeartbeats 8000000 in
theorem polys_ok {list : List (List (Int × Int))} (hpr : primeB p u=true) (hl : list.length<=4294967296) (hx : ∀ j,(list.getD j []).length<=4294967296) :
 Ctr Tryd.prog 58 [.int .i64 p,.int .i64 u,.slice (list.map D.tms)] true
  (.tup [.d (D.ring p u),.d (.slice (if list.all (isT p (2 ^ u)) then (list.map (dnT (2 ^ u))).map D.ints else [])),.d (.bool (list.all (isT p (2 ^ u))))]) []:=by
 have c1:=Ctr.tupN (ys:=[_,_]) (ringOf_ok p u)
 rw [hpr] at c1
 have hbad : ∀ i,i < list.length->isT p (2 ^ u) (list.getD i [])=false->list.all (isT p (2 ^ u))=false:=fun i hi h => all_false (z:=[]) hi h
 have hgood : (∀ j,j < list.length->isT p (2 ^ u) (list.getD j [])=true)->list.all (isT p (2 ^ u))=true:=fun h => all_true (z:=[]) h
 generalize list.all (isT p (2 ^ u))=G at *
 refine Ctr.of (n:=43) (rs:=[.cell 6 77,.tmp 7,.tmp 8]) Tryd.func58 rfl rfl Tryd.ntmps58 rfl rfl (by kernel_rfl) Tryd.checked.mixed ?_
 simp (disch:=first | omega | decide +kernel) only [D.ints,go_sem,Qa,Qb,Qc,Qd,Qe,↓reduceIte,reduceCtorEq,Qf,Qg,Qh]
 (repeat' (first | ((first | (refine gsel_split (fun q' => ?_) (fun q' => ?_)<;>(have h':=q')<;>(try simp only [za1,za2,Ba,Bb,za3,ne_eq,za4,za5,za6,Ia,Ib,Ic,Ie,Da,Bc,Bh,Be,za7,za8] at h')<;>try (exfalso; omega)) | (have q':=trivial; first | refine callX_new (c1) rfl (by decide) ?_ | refine callY_new (c1) rfl ?_ | refine hE _ _ ret_ne ?_ | refine hE _ _ exit_ne ?_))<;>(try simp (disch:=first | omega | decide +kernel) only [q',D.ints,go_sem,Qa,Qb,Qc,Qd,Qe,↓reduceIte,reduceCtorEq,Qf,Qg,Qh])<;>clear q') | refine hN _ ?_ ?_ Wk.kk | with_reducible refine And.intro ?_ ?_ | with_reducible omega | exact ok_ints | exact cells_ints | exact no_mem | with_reducible exact plain_ints | (refine le_maxLen ?_; omega) | (refine za9 ⟨?_,?_⟩) | (simp only [go_sem,Qc,Qb,zb1,zb2,forall_eq]; done)))
 refine Ok.loopN [40,39,38,37,36,35,34,33,32,31,30,29,28,27,26,25,22,21,20,19,18,17,16,15,14,13,12,11,10,8,7,5,4,3,2,1,0] (fun i _ => [(25,.d (.int .i64 (i : Nat))),(11,.sl 11)]) (fun _ (q : List (List Int)) => [(11,.arr 81 1 (q.map D.ints))]) list.length
  (fun i q => q=(list.take i).map (dnT (2 ^ u))∧∀ j,j < i->isT p (2 ^ u) (list.getD j [])=true) [] ⟨rfl,by simp⟩ (Wk.kk) ?_
 rintro R i q hN hE hi ⟨hq,hI⟩
 have hql : q.length=i:=by rw [hq,List.length_map,List.length_take]; omega
 by_cases hlt : i < list.length
 . have hs : (list.take (i + 1)).map (dnT (2 ^ u))=q++[dnT (2 ^ u) (list.getD i [])]:=by
    rw [take_succ [] list i hlt,List.map_append,← hq]; rfl
   have hei:=el_tms hlt
   have c2:=is_ok hp hu (hx i)
   by_cases hb : isT p (2 ^ u) (list.getD i [])=true
   . have c3:=Ctr.data1 (dense_ok hp hu (hx i) hb)
     rw [hb] at c2
     have hI2 : ∀ j,j < i + 1->isT p (2 ^ u) (list.getD j [])=true:=fun j hj => by
      by_cases e : j=i
      . rw [e]; exact hb
      . exact hI j (by omega)
     clear hq
     generalize dnT (2 ^ u) (list.getD i [])=w at *
     simp (disch:=first | omega | decide +kernel) only [hei,go_sem,Qa,Qb,Qc,Qd,Qe,↓reduceIte,reduceCtorEq,Qf,Qg,Qh]
     (repeat' (first | ((first | (refine gsel_split (fun q' => ?_) (fun q' => ?_)<;>(have h':=q')<;>(try simp only [za1,za2,Ba,Bb,za3,ne_eq,za4,za5,za6,Ia,Ib,Ic,Ie,Da,Bc,Bh,Be,za7,za8] at h')<;>try (exfalso; omega)) | (have q':=trivial; first | refine callX_new (c2) rfl (by decide) ?_ | refine callY_new (c2) rfl ?_ | refine callX_shared (c3) rfl (by decide) ?_ | refine callY_shared (c3) rfl ?_ | refine hE _ _ ret_ne ?_ | refine hE _ _ exit_ne ?_))<;>(try simp (disch:=first | omega | decide +kernel) only [q',hei,D.ints,go_sem,Qa,Qb,Qc,Qd,Qe,↓reduceIte,reduceCtorEq,Qf,Qg,Qh])<;>clear q') | refine hN _ ?_ ?_ Wk.kk | with_reducible refine And.intro ?_ ?_ | with_reducible omega | exact ok_ints | exact cells_ints | exact no_mem | with_reducible exact plain_ints | (refine le_maxLen ?_; omega) | (refine za9 ⟨?_,?_⟩) | (simp only [go_sem,Qc,Qb,zb1,zb2,forall_eq]; done)))
     all_goals (first | omega | (refine hN (q++[w]) _ hlt ⟨hs.symm,hI2⟩ (by refine Wk.auto ?_ ?_<;>simp [extraK,lk,killL,St.kill,wipeO,wipeS,AV.has,AV.hasL,AO.wipe,List.map_set,updSt,insL,dropS,ins,D.ints]); done))
   . rw [Bool.not_eq_true] at hb
     rw [hb] at c2
     have hG:=hbad i hlt hb
     subst hG
     simp (disch:=first | omega | decide +kernel) only [hei,go_sem,Qa,Qb,Qc,Qd,Qe,↓reduceIte,reduceCtorEq,Qf,Qg,Qh]
     (repeat' (first | ((first | (refine gsel_split (fun q' => ?_) (fun q' => ?_)<;>(have h':=q')<;>(try simp only [za1,za2,Ba,Bb,za3,ne_eq,za4,za5,za6,Ia,Ib,Ic,Ie,Da,Bc,Bh,Be,za7,za8] at h')<;>try (exfalso; omega)) | (have q':=trivial; first | refine callX_new (c2) rfl (by decide) ?_ | refine callY_new (c2) rfl ?_ | refine hE _ _ ret_ne ?_ | refine hE _ _ exit_ne ?_))<;>(try simp (disch:=first | omega | decide +kernel) only [q',hei,D.ints,go_sem,Qa,Qb,Qc,Qd,Qe,↓reduceIte,reduceCtorEq,Qf,Qg,Qh])<;>clear q') | refine hN _ ?_ ?_ Wk.kk | with_reducible refine And.intro ?_ ?_ | with_reducible omega | exact ok_ints | exact cells_ints | exact no_mem | with_reducible exact plain_ints | (refine le_maxLen ?_; omega) | (refine za9 ⟨?_,?_⟩) | (simp only [go_sem,Qc,Qb,zb1,zb2,forall_eq]; done)))
     all_goals (first | omega | exact ret_scbdd [7] rfl rfl rfl rfl (by simp only [go_sem]) (by simp only [go_sem,List.length_cons,List.length_nil]) rfl (by simp only [go_sem]))
 . obtain rfl : i=list.length:=by omega
   rw [List.take_length] at hq
   have hG:=hgood hI
   subst hG
   subst hq
   simp (disch:=first | omega | decide +kernel) only [go_sem,Qa,Qb,Qc,Qd,Qe,↓reduceIte,reduceCtorEq,Qf,Qg,Qh]
   (repeat' (first | ((first | (refine gsel_split (fun q' => ?_) (fun q' => ?_)<;>(have h':=q')<;>(try simp only [za1,za2,Ba,Bb,za3,ne_eq,za4,za5,za6,Ia,Ib,Ic,Ie,Da,Bc,Bh,Be,za7,za8] at h')<;>try (exfalso; omega)) | (have q':=trivial; first | refine hE _ _ ret_ne ?_ | refine hE _ _ exit_ne ?_))<;>(try simp (disch:=first | omega | decide +kernel) only [q',go_sem,Qa,Qb,Qc,Qd,Qe,↓reduceIte,reduceCtorEq,Qf,Qg,Qh])<;>clear q') | refine hN _ ?_ ?_ Wk.kk | with_reducible refine And.intro ?_ ?_ | with_reducible omega | exact ok_ints | exact cells_ints | exact no_mem | with_reducible exact plain_ints | (refine le_maxLen ?_; omega) | (refine za9 ⟨?_,?_⟩) | (simp only [go_sem,Qc,Qb,zb1,zb2,forall_eq]; done)))
   all_goals (first | omega | exact ret_scbdd [11] rfl rfl rfl rfl (by simp only [go_sem]) (by simp only [go_sem,List.length_cons,List.length_nil]) rfl (by simp only [go_sem]))
end
end Abs.Y

namespace Abs.Y
open Go Go.Proofs Abs
set_option maxRecDepth 100000

def cntF : Nat->Nat->Nat
 | 0,_ => 0
 | f + 1,n => n % 2 + cntF f (n / 2)
def cnt (m : Nat) : Nat:=cntF 6 m
theorem cntF_le : ∀ f n,cntF f n<=f
 | 0,_ => Nat.le_refl _
 | f + 1, n => by
   have:=cntF_le f (n / 2)
   rw [cntF]; omega
theorem cnt_le (m : Nat) : cnt m<=6:=cntF_le 6 m
theorem ones64_ok {m : Nat} (hm : m < 64) : Ctr Tryd.prog 172 [.int .u64 m] false (.d (.int .i64 (cnt m))) []:=by
 refine Ctr.of (n:=35) (rs:=[.tmp 2]) Tryd.func172 rfl rfl Tryd.ntmps172 rfl rfl (by kernel_rfl) Tryd.checked.mixed ?_
 simp (disch:=first | omega | decide +kernel) only [go_sem,Qa,Qb,Qc,Qd,Qe,↓reduceIte,reduceCtorEq,Qf,Qg,Qh]
 (repeat' (first | ((first | (refine gsel_split (fun q' => ?_) (fun q' => ?_)<;>(have h':=q')<;>(try simp only [za1,za2,Ba,Bb,za3,ne_eq,za4,za5,za6,Ia,Ib,Ic,Ie,Da,Bc,Bh,Be,za7,za8] at h')<;>try (exfalso; omega)) | (have q':=trivial; first | refine hE _ _ ret_ne ?_ | refine hE _ _ exit_ne ?_))<;>(try simp (disch:=first | omega | decide +kernel) only [q',go_sem,Qa,Qb,Qc,Qd,Qe,↓reduceIte,reduceCtorEq,Qf,Qg,Qh])<;>clear q') | refine hN _ ?_ ?_ Wk.kk | with_reducible refine And.intro ?_ ?_ | with_reducible omega | exact ok_ints | exact cells_ints | exact no_mem | with_reducible exact plain_ints | (refine le_maxLen ?_; omega) | (refine za9 ⟨?_,?_⟩) | (simp only [go_sem,Qc,Qb,zb1,zb2,forall_eq]; done)))
 all_goals (first | (refine congrArg (D.int .i64) ?_; revert m; decide +kernel))
theorem ones_ok {m : Nat} (hm : m < 64) : Ctr Tryd.prog 158 [.int .u64 m] false (.d (.int .i64 (cnt m))) []:=by
 have c1:=ones64_ok hm
 generalize cnt m=n at *
 refine Ctr.of (n:=8) (rs:=[.tmp 2]) Tryd.func158 rfl rfl Tryd.ntmps158 rfl rfl (by kernel_rfl) Tryd.checked.mixed ?_
 simp (disch:=first | omega | decide +kernel) only [go_sem,Qa,Qb,Qc,Qd,Qe,↓reduceIte,reduceCtorEq,Qf,Qg,Qh]
 (repeat' (first | ((first | (refine gsel_split (fun q' => ?_) (fun q' => ?_)<;>(have h':=q')<;>(try simp only [za1,za2,Ba,Bb,za3,ne_eq,za4,za5,za6,Ia,Ib,Ic,Ie,Da,Bc,Bh,Be,za7,za8] at h')<;>try (exfalso; omega)) | (have q':=trivial; first | refine callX_new (c1) rfl (by decide) ?_ | refine callY_new (c1) rfl ?_ | refine hE _ _ ret_ne ?_ | refine hE _ _ exit_ne ?_))<;>(try simp (disch:=first | omega | decide +kernel) only [q',go_sem,Qa,Qb,Qc,Qd,Qe,↓reduceIte,reduceCtorEq,Qf,Qg,Qh])<;>clear q') | refine hN _ ?_ ?_ Wk.kk | with_reducible refine And.intro ?_ ?_ | with_reducible omega | exact ok_ints | exact cells_ints | exact no_mem | with_reducible exact plain_ints | (refine le_maxLen ?_; omega) | (refine za9 ⟨?_,?_⟩) | (simp only [go_sem,Qc,Qb,zb1,zb2,forall_eq]; done)))
 all_goals (first | omega)
theorem degreeOf_ok {m : Nat} (hm : m < 64) : Ctr Tryd.prog 133 [.int .i64 m] false (.d (.int .i64 (cnt m))) []:=by
 have e : IntKind.u64.wrap (m : Int)=m:=by revert m; decide +kernel
 have c1:=ones_ok hm
 generalize cnt m=n at *
 refine Ctr.of (n:=6) (rs:=[.tmp 2]) Tryd.func133 rfl rfl Tryd.ntmps133 rfl rfl (by kernel_rfl) Tryd.checked.mixed ?_
 simp (disch:=first | omega | decide +kernel) only [e,go_sem,Qa,Qb,Qc,Qd,Qe,↓reduceIte,reduceCtorEq,Qf,Qg,Qh]
 (repeat' (first | ((first | (refine gsel_split (fun q' => ?_) (fun q' => ?_)<;>(have h':=q')<;>(try simp only [za1,za2,Ba,Bb,za3,ne_eq,za4,za5,za6,Ia,Ib,Ic,Ie,Da,Bc,Bh,Be,za7,za8] at h')<;>try (exfalso; omega)) | (have q':=trivial; first | refine callX_new (c1) rfl (by decide) ?_ | refine callY_new (c1) rfl ?_ | refine hE _ _ ret_ne ?_ | refine hE _ _ exit_ne ?_))<;>(try simp (disch:=first | omega | decide +kernel) only [q',e,go_sem,Qa,Qb,Qc,Qd,Qe,↓reduceIte,reduceCtorEq,Qf,Qg,Qh])<;>clear q') | refine hN _ ?_ ?_ Wk.kk | with_reducible refine And.intro ?_ ?_ | with_reducible omega | exact ok_ints | exact cells_ints | exact no_mem | with_reducible exact plain_ints | (refine le_maxLen ?_; omega) | (refine za9 ⟨?_,?_⟩) | (simp only [go_sem,Qc,Qb,zb1,zb2,forall_eq]; done)))
 all_goals (first | omega)
end Abs.Y

namespace Abs.Y
open Go Go.Proofs Abs
set_option maxRecDepth 100000

def degT (a : List (Int × Int)) : Int:=a.foldl (fun d t => max d (cnt t.1.toNat : Int)) (-1)
def degD (v : List Int) : Int:=(List.range v.length).foldl (fun d m => if v.getD m 0=0 then d else max d (cnt m : Int)) (-1)
theorem deg_eq (v : List Int) : degT (spT v)=degD v:=by
 have : ∀ (r : List Nat) (d : Int),((r.filter fun m => decide (v.getD m 0 ≠ 0)).map fun m : Nat => ((m : Int),v.getD m 0)).foldl (fun d (t : Int × Int) => max d (cnt t.1.toNat : Int)) d=r.foldl (fun d m => if v.getD m 0=0 then d else max d (cnt m : Int)) d:=by
  intro r
  induction r with
  | nil => intro d; rfl
  | cons m r ih =>
    intro d
    by_cases hz : v.getD m 0=0
    . rw [List.filter_cons_of_neg (by rw [decide_eq_true_eq]; exact fun h => h hz),List.foldl_cons,if_pos hz]
      exact ih d
    . rw [List.filter_cons_of_pos (by rw [decide_eq_true_eq]; exact hz),List.map_cons,List.foldl_cons,List.foldl_cons,if_neg hz]
      simp only [Int.toNat_natCast]
      exact ih _
 exact this _ _
theorem fold_max (a : List (Int × Int)) : ∀ d : Int,d<=a.foldl (fun d t => max d (cnt t.1.toNat : Int)) d∧a.foldl (fun d t => max d (cnt t.1.toNat : Int)) d<=max d 6:=by
 induction a with
 | nil => intro d; simp only [List.foldl_nil]; omega
 | cons t r ih =>
   intro d
   have h1:=ih (max d (cnt t.1.toNat : Int))
   have h2:=cnt_le t.1.toNat
   rw [List.foldl_cons]
   omega
theorem degT_bd (a : List (Int × Int)) : -1<=degT a∧degT a<=6:=by
 have:=fold_max a (-1)
 unfold degT
 omega
theorem degT_neg (a : List (Int × Int)) : degT a < 0↔a=[]:=by
 cases a with
 | nil => simp [degT]
 | cons t r =>
   have:=fold_max r (max (-1) (cnt t.1.toNat : Int))
   have h : degT (t :: r)=r.foldl (fun d t => max d (cnt t.1.toNat : Int)) (max (-1) (cnt t.1.toNat : Int)):=rfl
   constructor
   . intro hn; rw [h] at hn; omega
   . intro hn; cases hn
theorem l1Most_ok (a b : Int) : Ctr Tryd.prog 77 [.int .i64 a,.int .i64 b] false (.d (.int .i64 (max a b))) []:=by
 refine Ctr.of (n:=10) (rs:=[.tmp 4]) Tryd.func77 rfl rfl Tryd.ntmps77 rfl rfl (by kernel_rfl) Tryd.checked.mixed ?_
 simp (disch:=first | omega | decide +kernel) only [go_sem,Qa,Qb,Qc,Qd,Qe,↓reduceIte,reduceCtorEq,Qf,Qg,Qh]
 (repeat' (first | ((first | (refine gsel_split (fun q' => ?_) (fun q' => ?_)<;>(have h':=q')<;>(try simp only [za1,za2,Ba,Bb,za3,ne_eq,za4,za5,za6,Ia,Ib,Ic,Ie,Da,Bc,Bh,Be,za7,za8] at h')) | (have q':=trivial; first | refine hE _ _ ret_ne ?_ | refine hE _ _ exit_ne ?_))<;>(try simp (disch:=first | omega | decide +kernel) only [q',go_sem,Qa,Qb,Qc,Qd,Qe,↓reduceIte,reduceCtorEq,Qf,Qg,Qh])<;>clear q') | refine hN _ ?_ ?_ Wk.kk | with_reducible refine And.intro ?_ ?_ | with_reducible omega | exact ok_ints | exact cells_ints | exact no_mem | with_reducible exact plain_ints | (refine le_maxLen ?_; omega) | (refine za9 ⟨?_,?_⟩) | (simp only [go_sem,Qc,Qb,zb1,zb2,forall_eq]; done)))
 all_goals (first | (simp_all; done) | (congr 1; omega))
theorem degree_ok {v : List Int} (hl : v.length<=64) : Ctr Tryd.prog 67 [.ints v] false (.d (.int .i64 (degD v))) []:=by
 refine Ctr.of (n:=21) (rs:=[.tmp 2]) Tryd.func67 rfl rfl Tryd.ntmps67 rfl rfl (by kernel_rfl) Tryd.checked.mixed ?_
 simp (disch:=first | omega | decide +kernel) only [D.ints,go_sem,Qa,Qb,Qc,Qd,Qe,↓reduceIte,reduceCtorEq,Qf,Qg,Qh]
 (repeat' (first | ((first | (refine gsel_split (fun q' => ?_) (fun q' => ?_)<;>(have h':=q')<;>(try simp only [za1,za2,Ba,Bb,za3,ne_eq,za4,za5,za6,Ia,Ib,Ic,Ie,Da,Bc,Bh,Be,za7,za8] at h')<;>try (exfalso; omega)) | (have q':=trivial; first | refine hE _ _ ret_ne ?_ | refine hE _ _ exit_ne ?_))<;>(try simp (disch:=first | omega | decide +kernel) only [q',D.ints,go_sem,Qa,Qb,Qc,Qd,Qe,↓reduceIte,reduceCtorEq,Qf,Qg,Qh])<;>clear q') | refine hN _ ?_ ?_ Wk.kk | with_reducible refine And.intro ?_ ?_ | with_reducible omega | exact ok_ints | exact cells_ints | exact no_mem | with_reducible exact plain_ints | (refine le_maxLen ?_; omega) | (refine za9 ⟨?_,?_⟩) | (simp only [go_sem,Qc,Qb,zb1,zb2,forall_eq]; done)))
 refine Ok.loopN [19,18,17,16,15,14,13,12,11,10,9,8,5,4,3,1,0] (fun i d => [(8,.d (.int .i64 (i : Nat))),(3,.d (.int .i64 d))]) (fun _ _ => []) v.length
  (fun i (d : Int) => d=(List.range i).foldl (fun d m => if v.getD m 0=0 then d else max d (cnt m : Int)) (-1)) (-1) rfl (Wk.kk) ?_
 rintro R i d hN hE hi hd
 by_cases hlt : i < v.length
 . have hs : (List.range (i + 1)).foldl (fun d m => if v.getD m 0=0 then d else max d (cnt m : Int)) (-1)=if v.getD i 0=0 then d else max d (cnt i : Int):=by
    rw [List.range_succ,List.foldl_append,← hd]; rfl
   have c1:=degreeOf_ok (m:=i) (by omega)
   have hkl:=cnt_le i
   clear hd
   generalize cnt i=c at *
   by_cases hz : v.getD i 0=0
   . rw [if_pos hz] at hs
     have hb : (v.getD i 0 != 0)=false:=by rw [hz]; rfl
     simp (disch:=first | omega | decide +kernel) only [hb,go_sem,Qa,Qb,Qc,Qd,Qe,↓reduceIte,reduceCtorEq,Qf,Qg,Qh]
     (repeat' (first | ((first | (refine gsel_split (fun q' => ?_) (fun q' => ?_)<;>(have h':=q')<;>(try simp only [za1,za2,Ba,Bb,za3,ne_eq,za4,za5,za6,Ia,Ib,Ic,Ie,Da,Bc,Bh,Be,za7,za8] at h')<;>try (exfalso; omega)) | (have q':=trivial; first | refine callX_new (c1) rfl (by decide) ?_ | refine callY_new (c1) rfl ?_ | refine hE _ _ ret_ne ?_ | refine hE _ _ exit_ne ?_))<;>(try simp (disch:=first | omega | decide +kernel) only [q',hb,go_sem,Qa,Qb,Qc,Qd,Qe,↓reduceIte,reduceCtorEq,Qf,Qg,Qh])<;>clear q') | refine hN _ ?_ ?_ Wk.kk | with_reducible refine And.intro ?_ ?_ | with_reducible omega | exact ok_ints | exact cells_ints | exact no_mem | with_reducible exact plain_ints | (refine le_maxLen ?_; omega) | (refine za9 ⟨?_,?_⟩) | (simp only [go_sem,Qc,Qb,zb1,zb2,forall_eq]; done)))
     all_goals (first | omega | (refine hN d _ hlt hs.symm (by refine Wk.auto ?_ ?_<;>simp [extraK,lk,killL,St.kill,wipeO,wipeS,AV.has,AV.hasL,AO.wipe,List.map_set,updSt,insL,dropS,ins,]); done))
   . rw [if_neg hz] at hs
     have hb : (v.getD i 0 != 0)=true:=bne_iff_ne.2 hz
     by_cases hdc : d < (c : Int)
     . rw [show max d (c : Int)=c by omega] at hs
       simp (disch:=first | omega | decide +kernel) only [hb,if_pos hdc,go_sem,Qa,Qb,Qc,Qd,Qe,↓reduceIte,reduceCtorEq,Qf,Qg,Qh]
       (repeat' (first | ((first | (refine gsel_split (fun q' => ?_) (fun q' => ?_)<;>(have h':=q')<;>(try simp only [za1,za2,Ba,Bb,za3,ne_eq,za4,za5,za6,Ia,Ib,Ic,Ie,Da,Bc,Bh,Be,za7,za8] at h')<;>try (exfalso; omega)) | (have q':=trivial; first | refine callX_new (c1) rfl (by decide) ?_ | refine callY_new (c1) rfl ?_ | refine hE _ _ ret_ne ?_ | refine hE _ _ exit_ne ?_))<;>(try simp (disch:=first | omega | decide +kernel) only [q',hb,if_pos hdc,go_sem,Qa,Qb,Qc,Qd,Qe,↓reduceIte,reduceCtorEq,Qf,Qg,Qh])<;>clear q') | refine hN _ ?_ ?_ Wk.kk | with_reducible refine And.intro ?_ ?_ | with_reducible omega | exact ok_ints | exact cells_ints | exact no_mem | with_reducible exact plain_ints | (refine le_maxLen ?_; omega) | (refine za9 ⟨?_,?_⟩) | (simp only [go_sem,Qc,Qb,zb1,zb2,forall_eq]; done)))
       all_goals (first | omega | (refine hN (c : Int) _ hlt hs.symm (by refine Wk.auto ?_ ?_<;>simp [extraK,lk,killL,St.kill,wipeO,wipeS,AV.has,AV.hasL,AO.wipe,List.map_set,updSt,insL,dropS,ins,if_pos hdc]); done))
     . rw [show max d (c : Int)=d by omega] at hs
       simp (disch:=first | omega | decide +kernel) only [hb,if_neg hdc,go_sem,Qa,Qb,Qc,Qd,Qe,↓reduceIte,reduceCtorEq,Qf,Qg,Qh]
       (repeat' (first | ((first | (refine gsel_split (fun q' => ?_) (fun q' => ?_)<;>(have h':=q')<;>(try simp only [za1,za2,Ba,Bb,za3,ne_eq,za4,za5,za6,Ia,Ib,Ic,Ie,Da,Bc,Bh,Be,za7,za8] at h')<;>try (exfalso; omega)) | (have q':=trivial; first | refine callX_new (c1) rfl (by decide) ?_ | refine callY_new (c1) rfl ?_ | refine hE _ _ ret_ne ?_ | refine hE _ _ exit_ne ?_))<;>(try simp (disch:=first | omega | decide +kernel) only [q',hb,if_neg hdc,go_sem,Qa,Qb,Qc,Qd,Qe,↓reduceIte,reduceCtorEq,Qf,Qg,Qh])<;>clear q') | refine hN _ ?_ ?_ Wk.kk | with_reducible refine And.intro ?_ ?_ | with_reducible omega | exact ok_ints | exact cells_ints | exact no_mem | with_reducible exact plain_ints | (refine le_maxLen ?_; omega) | (refine za9 ⟨?_,?_⟩) | (simp only [go_sem,Qc,Qb,zb1,zb2,forall_eq]; done)))
       all_goals (first | omega | (refine hN d _ hlt hs.symm (by refine Wk.auto ?_ ?_<;>simp [extraK,lk,killL,St.kill,wipeO,wipeS,AV.has,AV.hasL,AO.wipe,List.map_set,updSt,insL,dropS,ins,if_neg hdc]); done))
 . obtain rfl : i=v.length:=by omega
   have hd2 : d=degD v:=hd
   rw [← hd2] at hE
   simp (disch:=first | omega | decide +kernel) only [go_sem,Qa,Qb,Qc,Qd,Qe,↓reduceIte,reduceCtorEq,Qf,Qg,Qh]
   (repeat' (first | ((first | (refine gsel_split (fun q' => ?_) (fun q' => ?_)<;>(have h':=q')<;>(try simp only [za1,za2,Ba,Bb,za3,ne_eq,za4,za5,za6,Ia,Ib,Ic,Ie,Da,Bc,Bh,Be,za7,za8] at h')<;>try (exfalso; omega)) | (have q':=trivial; first | refine hE _ _ ret_ne ?_ | refine hE _ _ exit_ne ?_))<;>(try simp (disch:=first | omega | decide +kernel) only [q',go_sem,Qa,Qb,Qc,Qd,Qe,↓reduceIte,reduceCtorEq,Qf,Qg,Qh])<;>clear q') | refine hN _ ?_ ?_ Wk.kk | with_reducible refine And.intro ?_ ?_ | with_reducible omega | exact ok_ints | exact cells_ints | exact no_mem | with_reducible exact plain_ints | (refine le_maxLen ?_; omega) | (refine za9 ⟨?_,?_⟩) | (simp only [go_sem,Qc,Qb,zb1,zb2,forall_eq]; done)))
   all_goals (first | omega)
end Abs.Y

namespace Abs.Y
open Go Go.Proofs Abs
set_option maxRecDepth 100000

def sumR (k : Nat) (f : Nat->Int) : Int:=(List.range k).foldl (fun s i => s + f i) 0
theorem sumR_succ (k : Nat) (f : Nat->Int) : sumR (k + 1) f=sumR k f + f k:=by
 rw [sumR,List.range_succ,List.foldl_append]; rfl
theorem sumR_congr {k : Nat} {f g : Nat->Int} (h : ∀ i,i < k->f i=g i) : sumR k f=sumR k g:=by
 induction k with
 | zero => rfl
 | succ k ih => rw [sumR_succ,sumR_succ,ih fun i hi => h i (by omega),h k (by omega)]
theorem sumR_mul (k : Nat) (c : Int) (f : Nat->Int) : sumR k (fun i => c * f i)=c * sumR k f:=by
 induction k with
 | zero => simp [sumR]
 | succ k ih => rw [sumR_succ,sumR_succ,ih]; grind
theorem st_fold {p : Int} (hp : 0 < p) {n : Nat} (g : Nat->Nat) (h : Nat->Int) {v : List Int} (hv : Vec p n v) (k j : Nat) (hj : j < n) :
 ((List.range k).foldl (fun v i => stP p v (g i) (h i)) v).getD j 0=(v.getD j 0 + sumR k (fun i => if g i=j then h i else 0)) % p:=by
 induction k with
 | zero =>
   have:=hv.2 j
   simp only [List.range_zero,List.foldl_nil,sumR,Int.add_zero]
   rw [Int.emod_eq_of_lt this.1 this.2]
 | succ k ih =>
   rw [List.range_succ,List.foldl_append,sumR_succ]
   simp only [List.foldl_cons,List.foldl_nil]
   have hw : Vec p n ((List.range k).foldl (fun v i => stP p v (g i) (h i)) v):=fold_vec (fun v m h => h.st hp _ _) _ hv
   generalize (List.range k).foldl (fun v i => stP p v (g i) (h i)) v=w at *
   unfold stP
   rw [getD_set]
   by_cases e : g k=j
   . rw [if_pos ⟨e,by rw [hw.1]; exact hj⟩,if_pos e,e,ih,Int.emod_add_emod]
     congr 1; omega
   . rw [if_neg (fun h => e h.1),if_neg e,ih,Int.add_zero]
def shD (b : List Int) (m j : Nat) : Int:=sumR b.length fun i => if m ||| i=j then b.getD i 0 else 0
theorem row_get {p : Int} (hp : 0 < p) {n : Nat} {v b : List Int} (hv : Vec p n v) (m : Nat) (c : Int) (j : Nat) (hj : j < n) : (rowD p b m c v).getD j 0=(v.getD j 0 + c * shD b m j) % p:=by
 unfold rowD
 rw [st_fold hp (fun i => m ||| i) (fun i => c * b.getD i 0) hv b.length j hj]
 congr 2
 unfold shD
 rw [← sumR_mul]
 exact sumR_congr fun i _ => by split<;>simp
theorem mul_get {p : Int} (hp : 0 < p) {n : Nat} {a b : List Int} (j : Nat) (hj : j < n) : (mulD p n a b).getD j 0=sumR a.length (fun m => a.getD m 0 * shD b m j) % p:=by
 have key : ∀ k,((List.range k).foldl (fun v m => rowD p b m (a.getD m 0) v) (List.replicate n 0)).getD j 0=sumR k (fun m => a.getD m 0 * shD b m j) % p:=by
  intro k
  induction k with
  | zero =>
    show (List.replicate n (0 : Int)).getD j 0=_
    rw [getD_rep]; simp [sumR]
  | succ k ih =>
    rw [List.range_succ,List.foldl_append,sumR_succ]
    simp only [List.foldl_cons,List.foldl_nil]
    have hw : Vec p n ((List.range k).foldl (fun v m => rowD p b m (a.getD m 0) v) (List.replicate n 0)):=fold_vec (fun v m h => h.rowD hp b m _) _ (Vec.zero hp n)
    rw [row_get hp hw _ _ j hj,ih,Int.emod_add_emod]
 exact key a.length
theorem mul_zero {p : Int} (hp : 0 < p) {n : Nat} (b : List Int) : mulD p n (List.replicate n 0) b=List.replicate n 0:=by
 have h1:=Vec.mulD (p:=p) hp n (List.replicate n 0) b
 refine vec_ext (p:=p) (n:=n) h1.1 (by simp) fun j => ?_
 rw [getD_rep]
 by_cases hj : j < n
 . rw [mul_get hp j hj,sumR_congr (g:=fun _ => 0 * 0) fun i _ => by rw [getD_rep]; simp]
   rw [sumR_mul]; simp
 . exact getD_oob (by rw [h1.1]; omega)

def kG (m : Nat) : Nat:=cnt m * 64 + m
theorem kG_inj {i j : Nat} (hi : i < 64) (hj : j < 64) (h : kG i=kG j) : i=j:=by unfold kG at h; omega
def ldI (v : List Int) : Int:=(List.range v.length).foldl (fun o m => if v.getD m 0 ≠ 0∧(o < 0∨kG o.toNat < kG m) then (m : Int) else o) (-1)
def ldG (v : List Int) : Nat:=(ldI v).toNat
theorem ldI_inv (v : List Int) (k : Nat) : let o:=(List.range k).foldl (fun o m => if v.getD m 0 ≠ 0∧(o < 0∨kG o.toNat < kG m) then (m : Int) else o) (-1)
 (o=-1∧∀ i,i < k->v.getD i 0=0)∨∃ m : Nat,o=m∧m < k∧v.getD m 0 ≠ 0∧∀ i,i < k->v.getD i 0 ≠ 0->kG i<=kG m:=by
 induction k with
 | zero => exact .inl ⟨rfl,fun i hi => by omega⟩
 | succ k ih =>
   rw [List.range_succ,List.foldl_append]
   simp only [List.foldl_cons,List.foldl_nil] at ih ⊢
   generalize (List.range k).foldl (fun o m => if v.getD m 0 ≠ 0∧(o < 0∨kG o.toNat < kG m) then (m : Int) else o) (-1)=o at *
   rcases ih with ⟨rfl,h⟩ | ⟨m,rfl,hm,hv,h⟩
   . by_cases e : v.getD k 0=0
     . rw [if_neg (fun h => h.1 e)]
       refine .inl ⟨rfl,fun i hi => ?_⟩
       by_cases e2 : i=k
       . rw [e2]; exact e
       . exact h i (by omega)
     . rw [if_pos ⟨e,.inl (by decide)⟩]
       refine .inr ⟨k,rfl,by omega,e,fun i hi h2 => ?_⟩
       by_cases e2 : i=k
       . rw [e2]; exact Nat.le_refl _
       . exact absurd (h i (by omega)) h2
   . by_cases e : v.getD k 0 ≠ 0∧((m : Int) < 0∨kG (m : Int).toNat < kG k)
     . rw [if_pos e]
       have h3 : kG m < kG k:=by
        rcases e.2 with h | h
        . omega
        . simpa using h
       refine .inr ⟨k,rfl,by omega,e.1,fun i hi h2 => ?_⟩
       by_cases e2 : i=k
       . rw [e2]; exact Nat.le_refl _
       . exact Nat.le_trans (h i (by omega) h2) (Nat.le_of_lt h3)
     . rw [if_neg e]
       refine .inr ⟨m,rfl,by omega,hv,fun i hi h2 => ?_⟩
       by_cases e2 : i=k
       . subst e2
         have : ¬ kG m < kG i:=fun h4 => e ⟨h2,.inr (by simpa using h4)⟩
         omega
       . exact h i (by omega) h2
theorem ldI_or (v : List Int) : (ldI v=-1∧∀ i,v.getD i 0=0)∨(ldI v=(ldG v : Nat)∧ldG v < v.length∧v.getD (ldG v) 0 ≠ 0∧∀ i,v.getD i 0 ≠ 0->kG i<=kG (ldG v)):=by
 rcases ldI_inv v v.length with ⟨h1,h2⟩ | ⟨m,h1,h2,h3,h4⟩
 . refine .inl ⟨h1,fun i => ?_⟩
   by_cases hi : i < v.length
   . exact h2 i hi
   . exact getD_oob (by omega)
 . have e : ldI v=(m : Int):=h1
   have e2 : ldG v=m:=by unfold ldG; rw [e]; simp
   rw [e2]
   exact .inr ⟨e,h2,h3,fun i hi => h4 i (lt_of_get hi) hi⟩
theorem ldI_neg {v : List Int} : ldI v < 0↔∀ i,v.getD i 0=0:=by
 rcases ldI_or v with ⟨h1,h2⟩ | ⟨h1,h2,h3,h4⟩
 . exact ⟨fun _ => h2,fun _ => by rw [h1]; decide⟩
 . exact ⟨fun h => by omega,fun h => absurd (h _) h3⟩
theorem lds_G {n : Nat} (hn : n<=64) : Lds kG n ldG:=by
 refine ⟨fun i j hi hj h => kG_inj (by omega) (by omega) h,fun v hv i hi => ?_⟩
 rcases ldI_or v with ⟨_,h2⟩ | ⟨_,_,h3,h4⟩
 . exact absurd (h2 i) hi
 . exact ⟨h3,h4 i hi⟩
end Abs.Y
