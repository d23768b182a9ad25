/- What functions of this program compute, over plain data. No condition. -/
import Derived.Test.YtckigpgkmdhfoaaV9
import Derived.Test.YtckigpgkmdhfoaaG3
set_option linter.all false
namespace Abs.Y
open Go Go.Proofs Abs
open Nat renaming reduceEqDiff -> Qa, reduceLT -> Qb, reduceAdd -> Qc, reduceMul -> Qd, reduceSub -> Qe, reduceLeDiff -> Qf, reduceSubDiff -> Qg, reduceBEq -> Qh
open Bool renaming not_eq_true' -> Ba, not_eq_false' -> Bb, and_eq_true -> Bc, or_eq_true -> Bh, or_eq_false_iff -> Be
open Int renaming ofNat_lt -> Ia, ofNat_le -> Ib, not_lt -> Ic, not_le -> Ie
open Decidable renaming not_not -> Da
set_option maxRecDepth 100000

theorem el_tms {xs : List (List (Int × Int))} {i : Nat} (h : i < xs.length) : el (xs.map D.tms) i=.slice ((xs.getD i []).map D.tm):=el_map (f:=D.tms) [] h
section
variable {p : Int} {u : Nat} (hp : 1 < p∧p<=5) (hu : u<=6)
include hp hu
set_option maxHeartbeats 8000000 in
theorem polys_ok {list : List (List (Int × Int))} (hpr : primeB p u=true) (hl : list.length<=4294967296) (hx : ∀ j,(list.getD j []).length<=4294967296) :
 Ctr Try.prog 63 [.int .i64 p,.int .i64 u,.slice (list.map D.tms)] true
  (.tup [.d (D.ring p u),.d (.slice (if list.all (isT p (2 ^ u)) then (list.map (dnT (2 ^ u))).map D.ints else [])),.d (.bool (list.all (isT p (2 ^ u))))]) []:=by
 have c1:=Ctr.tupN (ys:=[_,_]) (ringOf_ok p u)
 rw [hpr] at c1
 have hbad : ∀ i,i < list.length->isT p (2 ^ u) (list.getD i [])=false->list.all (isT p (2 ^ u))=false:=fun i hi h => all_false (z:=[]) hi h
 have hgood : (∀ j,j < list.length->isT p (2 ^ u) (list.getD j [])=true)->list.all (isT p (2 ^ u))=true:=fun h => all_true (z:=[]) h
 generalize list.all (isT p (2 ^ u))=G at *
 refine Ctr.of (n:=43) (rs:=[.cell 6 84,.tmp 7,.tmp 8]) Try.func63 rfl rfl Try.ntmps63 rfl rfl (by kernel_rfl) Try.checked.mixed ?_
 simp (disch:=first | omega | decide +kernel) only [D.ints,go_sem,Qa,Qb,Qc,Qd,Qe,↓reduceIte,reduceCtorEq,Qf,Qg,Qh]
 (repeat' (first | ((first | (refine gsel_split (fun q' => ?_) (fun q' => ?_)<;>(have h':=q')<;>(try simp only [za1,za2,Ba,Bb,za3,ne_eq,za4,za5,za6,Ia,Ib,Ic,Ie,Da,Bc,Bh,Be,za7,za8] at h')<;>try (exfalso; omega)) | (have q':=trivial; first | refine callX_new (c1) rfl (by decide) ?_ | refine callY_new (c1) rfl ?_ | refine hE _ _ ret_ne ?_ | refine hE _ _ exit_ne ?_))<;>(try simp (disch:=first | omega | decide +kernel) only [q',D.ints,go_sem,Qa,Qb,Qc,Qd,Qe,↓reduceIte,reduceCtorEq,Qf,Qg,Qh])<;>clear q') | refine hN _ ?_ ?_ Wk.kk | with_reducible refine And.intro ?_ ?_ | with_reducible omega | exact ok_ints | exact cells_ints | exact no_mem | with_reducible exact plain_ints | (refine le_maxLen ?_; omega) | (refine za9 ⟨?_,?_⟩) | (simp only [go_sem,Qc,Qb,zb1,zb2,forall_eq]; done)))
 refine Ok.loopN [40,39,38,37,36,35,34,33,32,31,30,29,28,27,26,25,22,21,20,19,18,17,16,15,14,13,12,11,10,8,7,5,4,3,2,1,0] (fun i _ => [(25,.d (.int .i64 (i : Nat))),(11,.sl 11)]) (fun _ (q : List (List Int)) => [(11,.arr 87 1 (q.map D.ints))]) list.length
  (fun i q => q=(list.take i).map (dnT (2 ^ u))∧∀ j,j < i->isT p (2 ^ u) (list.getD j [])=true) [] ⟨rfl,by simp⟩ (Wk.kk) ?_
 rintro R i q hN hE hi ⟨hq,hI⟩
 have hql : q.length=i:=by rw [hq,List.length_map,List.length_take]; omega
 by_cases hlt : i < list.length
 . have hs : (list.take (i + 1)).map (dnT (2 ^ u))=q++[dnT (2 ^ u) (list.getD i [])]:=by
    rw [take_succ [] list i hlt,List.map_append,← hq]; rfl
   have hei:=el_tms hlt
   have c2:=is_ok hp hu (hx i)
   by_cases hb : isT p (2 ^ u) (list.getD i [])=true
   . have c3:=Ctr.data1 (dense_ok hp hu (hx i) hb)
     rw [hb] at c2
     have hI2 : ∀ j,j < i + 1->isT p (2 ^ u) (list.getD j [])=true:=fun j hj => by
      by_cases e : j=i
      . rw [e]; exact hb
      . exact hI j (by omega)
     clear hq
     generalize dnT (2 ^ u) (list.getD i [])=w at *
     simp (disch:=first | omega | decide +kernel) only [hei,go_sem,Qa,Qb,Qc,Qd,Qe,↓reduceIte,reduceCtorEq,Qf,Qg,Qh]
     (repeat' (first | ((first | (refine gsel_split (fun q' => ?_) (fun q' => ?_)<;>(have h':=q')<;>(try simp only [za1,za2,Ba,Bb,za3,ne_eq,za4,za5,za6,Ia,Ib,Ic,Ie,Da,Bc,Bh,Be,za7,za8] at h')<;>try (exfalso; omega)) | (have q':=trivial; first | refine callX_new (c2) rfl (by decide) ?_ | refine callY_new (c2) rfl ?_ | refine callX_shared (c3) rfl (by decide) ?_ | refine callY_shared (c3) rfl ?_ | refine hE _ _ ret_ne ?_ | refine hE _ _ exit_ne ?_))<;>(try simp (disch:=first | omega | decide +kernel) only [q',hei,D.ints,go_sem,Qa,Qb,Qc,Qd,Qe,↓reduceIte,reduceCtorEq,Qf,Qg,Qh])<;>clear q') | refine hN _ ?_ ?_ Wk.kk | with_reducible refine And.intro ?_ ?_ | with_reducible omega | exact ok_ints | exact cells_ints | exact no_mem | with_reducible exact plain_ints | (refine le_maxLen ?_; omega) | (refine za9 ⟨?_,?_⟩) | (simp only [go_sem,Qc,Qb,zb1,zb2,forall_eq]; done)))
     all_goals (first | omega | (refine hN (q++[w]) _ hlt ⟨hs.symm,hI2⟩ (by refine Wk.auto ?_ ?_<;>simp [extraK,lk,killL,St.kill,wipeO,wipeS,AV.has,AV.hasL,AO.wipe,List.map_set,updSt,insL,dropS,ins,D.ints]); done))
   . rw [Bool.not_eq_true] at hb
     rw [hb] at c2
     have hG:=hbad i hlt hb
     subst hG
     simp (disch:=first | omega | decide +kernel) only [hei,go_sem,Qa,Qb,Qc,Qd,Qe,↓reduceIte,reduceCtorEq,Qf,Qg,Qh]
     (repeat' (first | ((first | (refine gsel_split (fun q' => ?_) (fun q' => ?_)<;>(have h':=q')<;>(try simp only [za1,za2,Ba,Bb,za3,ne_eq,za4,za5,za6,Ia,Ib,Ic,Ie,Da,Bc,Bh,Be,za7,za8] at h')<;>try (exfalso; omega)) | (have q':=trivial; first | refine callX_new (c2) rfl (by decide) ?_ | refine callY_new (c2) rfl ?_ | refine hE _ _ ret_ne ?_ | refine hE _ _ exit_ne ?_))<;>(try simp (disch:=first | omega | decide +kernel) only [q',hei,D.ints,go_sem,Qa,Qb,Qc,Qd,Qe,↓reduceIte,reduceCtorEq,Qf,Qg,Qh])<;>clear q') | refine hN _ ?_ ?_ Wk.kk | with_reducible refine And.intro ?_ ?_ | with_reducible omega | exact ok_ints | exact cells_ints | exact no_mem | with_reducible exact plain_ints | (refine le_maxLen ?_; omega) | (refine za9 ⟨?_,?_⟩) | (simp only [go_sem,Qc,Qb,zb1,zb2,forall_eq]; done)))
     all_goals (first | omega | exact ret_scbdd [7] rfl rfl rfl rfl (by simp only [go_sem]) (by simp only [go_sem,List.length_cons,List.length_nil]) rfl (by simp only [go_sem]))
 . obtain rfl : i=list.length:=by omega
   rw [List.take_length] at hq
   have hG:=hgood hI
   subst hG
   subst hq
   simp (disch:=first | omega | decide +kernel) only [go_sem,Qa,Qb,Qc,Qd,Qe,↓reduceIte,reduceCtorEq,Qf,Qg,Qh]
   (repeat' (first | ((first | (refine gsel_split (fun q' => ?_) (fun q' => ?_)<;>(have h':=q')<;>(try simp only [za1,za2,Ba,Bb,za3,ne_eq,za4,za5,za6,Ia,Ib,Ic,Ie,Da,Bc,Bh,Be,za7,za8] at h')<;>try (exfalso; omega)) | (have q':=trivial; first | refine hE _ _ ret_ne ?_ | refine hE _ _ exit_ne ?_))<;>(try simp (disch:=first | omega | decide +kernel) only [q',go_sem,Qa,Qb,Qc,Qd,Qe,↓reduceIte,reduceCtorEq,Qf,Qg,Qh])<;>clear q') | refine hN _ ?_ ?_ Wk.kk | with_reducible refine And.intro ?_ ?_ | with_reducible omega | exact ok_ints | exact cells_ints | exact no_mem | with_reducible exact plain_ints | (refine le_maxLen ?_; omega) | (refine za9 ⟨?_,?_⟩) | (simp only [go_sem,Qc,Qb,zb1,zb2,forall_eq]; done)))
   all_goals (first | omega | exact ret_scbdd [11] rfl rfl rfl rfl (by simp only [go_sem]) (by simp only [go_sem,List.length_cons,List.length_nil]) rfl (by simp only [go_sem]))
end
end Abs.Y

namespace Abs.Y
open Go Go.Proofs Abs
open Nat renaming reduceEqDiff -> Qa, reduceLT -> Qb, reduceAdd -> Qc, reduceMul -> Qd, reduceSub -> Qe, reduceLeDiff -> Qf, reduceSubDiff -> Qg, reduceBEq -> Qh
open Bool renaming not_eq_true' -> Ba, not_eq_false' -> Bb, and_eq_true -> Bc, or_eq_true -> Bh, or_eq_false_iff -> Be
open Int renaming ofNat_lt -> Ia, ofNat_le -> Ib, not_lt -> Ic, not_le -> Ie
open Decidable renaming not_not -> Da
set_option maxRecDepth 100000

def cntF : Nat->Nat->Nat
 | 0,_ => 0
 | f + 1,n => n % 2 + cntF f (n / 2)
def cnt (m : Nat) : Nat:=cntF 6 m
theorem cntF_le : ∀ f n,cntF f n<=f
 | 0,_ => Nat.le_refl _
 | f + 1, n => by
   have:=cntF_le f (n / 2)
   rw [cntF]; omega
theorem cnt_le (m : Nat) : cnt m<=6:=cntF_le 6 m
theorem ones64_ok {m : Nat} (hm : m < 64) : Ctr Try.prog 162 [.int .u64 m] false (.d (.int .i64 (cnt m))) []:=by
 refine Ctr.of (n:=35) (rs:=[.tmp 2]) Try.func162 rfl rfl Try.ntmps162 rfl rfl (by kernel_rfl) Try.checked.mixed ?_
 simp (disch:=first | omega | decide +kernel) only [go_sem,Qa,Qb,Qc,Qd,Qe,↓reduceIte,reduceCtorEq,Qf,Qg,Qh]
 (repeat' (first | ((first | (refine gsel_split (fun q' => ?_) (fun q' => ?_)<;>(have h':=q')<;>(try simp only [za1,za2,Ba,Bb,za3,ne_eq,za4,za5,za6,Ia,Ib,Ic,Ie,Da,Bc,Bh,Be,za7,za8] at h')<;>try (exfalso; omega)) | (have q':=trivial; first | refine hE _ _ ret_ne ?_ | refine hE _ _ exit_ne ?_))<;>(try simp (disch:=first | omega | decide +kernel) only [q',go_sem,Qa,Qb,Qc,Qd,Qe,↓reduceIte,reduceCtorEq,Qf,Qg,Qh])<;>clear q') | refine hN _ ?_ ?_ Wk.kk | with_reducible refine And.intro ?_ ?_ | with_reducible omega | exact ok_ints | exact cells_ints | exact no_mem | with_reducible exact plain_ints | (refine le_maxLen ?_; omega) | (refine za9 ⟨?_,?_⟩) | (simp only [go_sem,Qc,Qb,zb1,zb2,forall_eq]; done)))
 all_goals (first | (refine congrArg (D.int .i64) ?_; revert m; decide +kernel))
theorem ones_ok {m : Nat} (hm : m < 64) : Ctr Try.prog 149 [.int .u64 m] false (.d (.int .i64 (cnt m))) []:=by
 have c1:=ones64_ok hm
 generalize cnt m=n at *
 refine Ctr.of (n:=8) (rs:=[.tmp 2]) Try.func149 rfl rfl Try.ntmps149 rfl rfl (by kernel_rfl) Try.checked.mixed ?_
 simp (disch:=first | omega | decide +kernel) only [go_sem,Qa,Qb,Qc,Qd,Qe,↓reduceIte,reduceCtorEq,Qf,Qg,Qh]
 (repeat' (first | ((first | (refine gsel_split (fun q' => ?_) (fun q' => ?_)<;>(have h':=q')<;>(try simp only [za1,za2,Ba,Bb,za3,ne_eq,za4,za5,za6,Ia,Ib,Ic,Ie,Da,Bc,Bh,Be,za7,za8] at h')<;>try (exfalso; omega)) | (have q':=trivial; first | refine callX_new (c1) rfl (by decide) ?_ | refine callY_new (c1) rfl ?_ | refine hE _ _ ret_ne ?_ | refine hE _ _ exit_ne ?_))<;>(try simp (disch:=first | omega | decide +kernel) only [q',go_sem,Qa,Qb,Qc,Qd,Qe,↓reduceIte,reduceCtorEq,Qf,Qg,Qh])<;>clear q') | refine hN _ ?_ ?_ Wk.kk | with_reducible refine And.intro ?_ ?_ | with_reducible omega | exact ok_ints | exact cells_ints | exact no_mem | with_reducible exact plain_ints | (refine le_maxLen ?_; omega) | (refine za9 ⟨?_,?_⟩) | (simp only [go_sem,Qc,Qb,zb1,zb2,forall_eq]; done)))
 all_goals (first | omega)
theorem degreeOf_ok {m : Nat} (hm : m < 64) : Ctr Try.prog 122 [.int .i64 m] false (.d (.int .i64 (cnt m))) []:=by
 have e : IntKind.u64.wrap (m : Int)=m:=by revert m; decide +kernel
 have c1:=ones_ok hm
 generalize cnt m=n at *
 refine Ctr.of (n:=6) (rs:=[.tmp 2]) Try.func122 rfl rfl Try.ntmps122 rfl rfl (by kernel_rfl) Try.checked.mixed ?_
 simp (disch:=first | omega | decide +kernel) only [e,go_sem,Qa,Qb,Qc,Qd,Qe,↓reduceIte,reduceCtorEq,Qf,Qg,Qh]
 (repeat' (first | ((first | (refine gsel_split (fun q' => ?_) (fun q' => ?_)<;>(have h':=q')<;>(try simp only [za1,za2,Ba,Bb,za3,ne_eq,za4,za5,za6,Ia,Ib,Ic,Ie,Da,Bc,Bh,Be,za7,za8] at h')<;>try (exfalso; omega)) | (have q':=trivial; first | refine callX_new (c1) rfl (by decide) ?_ | refine callY_new (c1) rfl ?_ | refine hE _ _ ret_ne ?_ | refine hE _ _ exit_ne ?_))<;>(try simp (disch:=first | omega | decide +kernel) only [q',e,go_sem,Qa,Qb,Qc,Qd,Qe,↓reduceIte,reduceCtorEq,Qf,Qg,Qh])<;>clear q') | refine hN _ ?_ ?_ Wk.kk | with_reducible refine And.intro ?_ ?_ | with_reducible omega | exact ok_ints | exact cells_ints | exact no_mem | with_reducible exact plain_ints | (refine le_maxLen ?_; omega) | (refine za9 ⟨?_,?_⟩) | (simp only [go_sem,Qc,Qb,zb1,zb2,forall_eq]; done)))
 all_goals (first | omega)
end Abs.Y

namespace Abs.Y
open Go Go.Proofs Abs
open Nat renaming reduceEqDiff -> Qa, reduceLT -> Qb, reduceAdd -> Qc, reduceMul -> Qd, reduceSub -> Qe, reduceLeDiff -> Qf, reduceSubDiff -> Qg, reduceBEq -> Qh
open Bool renaming not_eq_true' -> Ba, not_eq_false' -> Bb, and_eq_true -> Bc, or_eq_true -> Bh, or_eq_false_iff -> Be
open Int renaming ofNat_lt -> Ia, ofNat_le -> Ib, not_lt -> Ic, not_le -> Ie
open Decidable renaming not_not -> Da
set_option maxRecDepth 100000

def degT (a : List (Int × Int)) : Int:=a.foldl (fun d t => max d (cnt t.1.toNat : Int)) (-1)
def degD (v : List Int) : Int:=(List.range v.length).foldl (fun d m => if v.getD m 0=0 then d else max d (cnt m : Int)) (-1)
theorem degree_ok {v : List Int} (hl : v.length<=64) : Ctr Try.prog 65 [.ints v] false (.d (.int .i64 (degD v))) []:=by
 refine Ctr.of (n:=21) (rs:=[.tmp 2]) Try.func65 rfl rfl Try.ntmps65 rfl rfl (by kernel_rfl) Try.checked.mixed ?_
 simp (disch:=first | omega | decide +kernel) only [D.ints,go_sem,Qa,Qb,Qc,Qd,Qe,↓reduceIte,reduceCtorEq,Qf,Qg,Qh]
 (repeat' (first | ((first | (refine gsel_split (fun q' => ?_) (fun q' => ?_)<;>(have h':=q')<;>(try simp only [za1,za2,Ba,Bb,za3,ne_eq,za4,za5,za6,Ia,Ib,Ic,Ie,Da,Bc,Bh,Be,za7,za8] at h')<;>try (exfalso; omega)) | (have q':=trivial; first | refine hE _ _ ret_ne ?_ | refine hE _ _ exit_ne ?_))<;>(try simp (disch:=first | omega | decide +kernel) only [q',D.ints,go_sem,Qa,Qb,Qc,Qd,Qe,↓reduceIte,reduceCtorEq,Qf,Qg,Qh])<;>clear q') | refine hN _ ?_ ?_ Wk.kk | with_reducible refine And.intro ?_ ?_ | with_reducible omega | exact ok_ints | exact cells_ints | exact no_mem | with_reducible exact plain_ints | (refine le_maxLen ?_; omega) | (refine za9 ⟨?_,?_⟩) | (simp only [go_sem,Qc,Qb,zb1,zb2,forall_eq]; done)))
 refine Ok.loopN [19,18,17,16,15,14,13,12,11,10,9,8,5,4,3,1,0] (fun i d => [(8,.d (.int .i64 (i : Nat))),(3,.d (.int .i64 d))]) (fun _ _ => []) v.length
  (fun i (d : Int) => d=(List.range i).foldl (fun d m => if v.getD m 0=0 then d else max d (cnt m : Int)) (-1)) (-1) rfl (Wk.kk) ?_
 rintro R i d hN hE hi hd
 by_cases hlt : i < v.length
 . have hs : (List.range (i + 1)).foldl (fun d m => if v.getD m 0=0 then d else max d (cnt m : Int)) (-1)=if v.getD i 0=0 then d else max d (cnt i : Int):=by
    rw [List.range_succ,List.foldl_append,← hd]; rfl
   have c1:=degreeOf_ok (m:=i) (by omega)
   have hkl:=cnt_le i
   clear hd
   generalize cnt i=c at *
   by_cases hz : v.getD i 0=0
   . rw [if_pos hz] at hs
     have hb : (v.getD i 0 != 0)=false:=by rw [hz]; rfl
     simp (disch:=first | omega | decide +kernel) only [hb,go_sem,Qa,Qb,Qc,Qd,Qe,↓reduceIte,reduceCtorEq,Qf,Qg,Qh]
     (repeat' (first | ((first | (refine gsel_split (fun q' => ?_) (fun q' => ?_)<;>(have h':=q')<;>(try simp only [za1,za2,Ba,Bb,za3,ne_eq,za4,za5,za6,Ia,Ib,Ic,Ie,Da,Bc,Bh,Be,za7,za8] at h')<;>try (exfalso; omega)) | (have q':=trivial; first | refine callX_new (c1) rfl (by decide) ?_ | refine callY_new (c1) rfl ?_ | refine hE _ _ ret_ne ?_ | refine hE _ _ exit_ne ?_))<;>(try simp (disch:=first | omega | decide +kernel) only [q',hb,go_sem,Qa,Qb,Qc,Qd,Qe,↓reduceIte,reduceCtorEq,Qf,Qg,Qh])<;>clear q') | refine hN _ ?_ ?_ Wk.kk | with_reducible refine And.intro ?_ ?_ | with_reducible omega | exact ok_ints | exact cells_ints | exact no_mem | with_reducible exact plain_ints | (refine le_maxLen ?_; omega) | (refine za9 ⟨?_,?_⟩) | (simp only [go_sem,Qc,Qb,zb1,zb2,forall_eq]; done)))
     all_goals (first | omega | (refine hN d _ hlt hs.symm (by refine Wk.auto ?_ ?_<;>simp [extraK,lk,killL,St.kill,wipeO,wipeS,AV.has,AV.hasL,AO.wipe,List.map_set,updSt,insL,dropS,ins,]); done))
   . rw [if_neg hz] at hs
     have hb : (v.getD i 0 != 0)=true:=bne_iff_ne.2 hz
     by_cases hdc : d < (c : Int)
     . rw [show max d (c : Int)=c by omega] at hs
       simp (disch:=first | omega | decide +kernel) only [hb,if_pos hdc,go_sem,Qa,Qb,Qc,Qd,Qe,↓reduceIte,reduceCtorEq,Qf,Qg,Qh]
       (repeat' (first | ((first | (refine gsel_split (fun q' => ?_) (fun q' => ?_)<;>(have h':=q')<;>(try simp only [za1,za2,Ba,Bb,za3,ne_eq,za4,za5,za6,Ia,Ib,Ic,Ie,Da,Bc,Bh,Be,za7,za8] at h')<;>try (exfalso; omega)) | (have q':=trivial; first | refine callX_new (c1) rfl (by decide) ?_ | refine callY_new (c1) rfl ?_ | refine hE _ _ ret_ne ?_ | refine hE _ _ exit_ne ?_))<;>(try simp (disch:=first | omega | decide +kernel) only [q',hb,if_pos hdc,go_sem,Qa,Qb,Qc,Qd,Qe,↓reduceIte,reduceCtorEq,Qf,Qg,Qh])<;>clear q') | refine hN _ ?_ ?_ Wk.kk | with_reducible refine And.intro ?_ ?_ | with_reducible omega | exact ok_ints | exact cells_ints | exact no_mem | with_reducible exact plain_ints | (refine le_maxLen ?_; omega) | (refine za9 ⟨?_,?_⟩) | (simp only [go_sem,Qc,Qb,zb1,zb2,forall_eq]; done)))
       all_goals (first | omega | (refine hN (c : Int) _ hlt hs.symm (by refine Wk.auto ?_ ?_<;>simp [extraK,lk,killL,St.kill,wipeO,wipeS,AV.has,AV.hasL,AO.wipe,List.map_set,updSt,insL,dropS,ins,if_pos hdc]); done))
     . rw [show max d (c : Int)=d by omega] at hs
       simp (disch:=first | omega | decide +kernel) only [hb,if_neg hdc,go_sem,Qa,Qb,Qc,Qd,Qe,↓reduceIte,reduceCtorEq,Qf,Qg,Qh]
       (repeat' (first | ((first | (refine gsel_split (fun q' => ?_) (fun q' => ?_)<;>(have h':=q')<;>(try simp only [za1,za2,Ba,Bb,za3,ne_eq,za4,za5,za6,Ia,Ib,Ic,Ie,Da,Bc,Bh,Be,za7,za8] at h')<;>try (exfalso; omega)) | (have q':=trivial; first | refine callX_new (c1) rfl (by decide) ?_ | refine callY_new (c1) rfl ?_ | refine hE _ _ ret_ne ?_ | refine hE _ _ exit_ne ?_))<;>(try simp (disch:=first | omega | decide +kernel) only [q',hb,if_neg hdc,go_sem,Qa,Qb,Qc,Qd,Qe,↓reduceIte,reduceCtorEq,Qf,Qg,Qh])<;>clear q') | refine hN _ ?_ ?_ Wk.kk | with_reducible refine And.intro ?_ ?_ | with_reducible omega | exact ok_ints | exact cells_ints | exact no_mem | with_reducible exact plain_ints | (refine le_maxLen ?_; omega) | (refine za9 ⟨?_,?_⟩) | (simp only [go_sem,Qc,Qb,zb1,zb2,forall_eq]; done)))
       all_goals (first | omega | (refine hN d _ hlt hs.symm (by refine Wk.auto ?_ ?_<;>simp [extraK,lk,killL,St.kill,wipeO,wipeS,AV.has,AV.hasL,AO.wipe,List.map_set,updSt,insL,dropS,ins,if_neg hdc]); done))
 . obtain rfl : i=v.length:=by omega
   have hd2 : d=degD v:=hd
   rw [← hd2] at hE
   simp (disch:=first | omega | decide +kernel) only [go_sem,Qa,Qb,Qc,Qd,Qe,↓reduceIte,reduceCtorEq,Qf,Qg,Qh]
   (repeat' (first | ((first | (refine gsel_split (fun q' => ?_) (fun q' => ?_)<;>(have h':=q')<;>(try simp only [za1,za2,Ba,Bb,za3,ne_eq,za4,za5,za6,Ia,Ib,Ic,Ie,Da,Bc,Bh,Be,za7,za8] at h')<;>try (exfalso; omega)) | (have q':=trivial; first | refine hE _ _ ret_ne ?_ | refine hE _ _ exit_ne ?_))<;>(try simp (disch:=first | omega | decide +kernel) only [q',go_sem,Qa,Qb,Qc,Qd,Qe,↓reduceIte,reduceCtorEq,Qf,Qg,Qh])<;>clear q') | refine hN _ ?_ ?_ Wk.kk | with_reducible refine And.intro ?_ ?_ | with_reducible omega | exact ok_ints | exact cells_ints | exact no_mem | with_reducible exact plain_ints | (refine le_maxLen ?_; omega) | (refine za9 ⟨?_,?_⟩) | (simp only [go_sem,Qc,Qb,zb1,zb2,forall_eq]; done)))
   all_goals (first | omega)
end Abs.Y

namespace Abs.Y
open Go Go.Proofs Abs
open Nat renaming reduceEqDiff -> Qa, reduceLT -> Qb, reduceAdd -> Qc, reduceMul -> Qd, reduceSub -> Qe, reduceLeDiff -> Qf, reduceSubDiff -> Qg, reduceBEq -> Qh
open Bool renaming not_eq_true' -> Ba, not_eq_false' -> Bb, and_eq_true -> Bc, or_eq_true -> Bh, or_eq_false_iff -> Be
open Int renaming ofNat_lt -> Ia, ofNat_le -> Ib, not_lt -> Ic, not_le -> Ie
open Decidable renaming not_not -> Da
set_option maxRecDepth 100000

theorem getD_oob {a : List Int} {i : Nat} (h : a.length<=i) : a.getD i 0=0:=by
 rw [List.getD_eq_getElem?_getD,List.getElem?_eq_none h]; rfl
theorem addD_len {p k : Int} {a b : List Int} (h : a.length=b.length) : (addD p k a b).length=a.length:=by simp [addD,h]
theorem addD_get {p k : Int} {a b : List Int} (h : a.length=b.length) (i : Nat) : (addD p k a b).getD i 0=(a.getD i 0 + k * b.getD i 0) % p:=by
 by_cases hi : i < a.length
 . exact getD_zip _ a b h i hi
 . rw [getD_oob (by rw [addD_len h]; omega),getD_oob (a:=a) (by omega),getD_oob (a:=b) (by omega)]; simp
theorem vec_ext {p : Int} {n : Nat} {a b : List Int} (ha : a.length=n) (hb : b.length=n) (h : ∀ i,a.getD i 0=b.getD i 0) : a=b :=
 ext_getDz 0 (by rw [ha,hb]) fun i _ => h i
theorem emod_eq_of {p x y : Int} (t : Int) (h : x=y + p * t) : x % p=y % p:=by rw [h,Int.add_mul_emod_self_left]
theorem emod_wit (p x : Int) : ∃ t,x % p=x + p * t:=⟨-(x / p),by rw [Int.emod_def,Int.mul_neg]; omega⟩
theorem addD_addD {p k j : Int} {n : Nat} {v w r : List Int} (hv : v.length=n) (hw : w.length=n) (hr : r.length=n) : addD p k v (addD p j w r)=addD p (k * j) (addD p k v w) r:=by
 have h1 : (addD p j w r).length=n:=by rw [addD_len (by omega),hw]
 have h2 : (addD p k v w).length=n:=by rw [addD_len (by omega),hv]
 refine vec_ext (p:=p) (n:=n) (by rw [addD_len (by omega),hv]) (by rw [addD_len (by omega),h2]) fun i => ?_
 rw [addD_get (by omega),addD_get (by omega),addD_get (by omega),addD_get (by omega)]
 obtain ⟨t1,e1⟩:=emod_wit p (w.getD i 0 + j * r.getD i 0)
 obtain ⟨t2,e2⟩:=emod_wit p (v.getD i 0 + k * w.getD i 0)
 rw [e1,e2]
 exact emod_eq_of (k * t1 - t2) (by grind)
theorem addD_same {p k j : Int} {n : Nat} {v r : List Int} (hv : v.length=n) (hr : r.length=n) : addD p k (addD p j v r) r=addD p (j + k) v r:=by
 have h1 : (addD p j v r).length=n:=by rw [addD_len (by omega),hv]
 refine vec_ext (p:=p) (n:=n) (by rw [addD_len (by omega),h1]) (by rw [addD_len (by omega),hv]) fun i => ?_
 rw [addD_get (by omega),addD_get (by omega),addD_get (by omega)]
 obtain ⟨t1,e1⟩:=emod_wit p (v.getD i 0 + j * r.getD i 0)
 rw [e1]
 exact emod_eq_of t1 (by grind)
theorem addD_mul {p k : Int} {n : Nat} {v r : List Int} (t : Int) (hk : k=p * t) (hv : Vec p n v) (hr : r.length=n) : addD p k v r=v:=by
 have hl:=hv.1
 refine vec_ext (p:=p) (n:=n) (by rw [addD_len (by omega),hv.1]) hv.1 fun i => ?_
 rw [addD_get (by omega)]
 have h:=hv.2 i
 rw [emod_eq_of (y:=v.getD i 0) (t * r.getD i 0) (by rw [hk]; grind),Int.emod_eq_of_lt h.1 h.2]
theorem getD_rep (n i : Nat) : (List.replicate n (0 : Int)).getD i 0=0:=by
 rw [List.getD_eq_getElem?_getD,List.getElem?_replicate]; split<;>rfl
theorem addD_z {p k : Int} {n : Nat} {v : List Int} (hv : Vec p n v) : addD p k v (List.replicate n 0)=v:=by
 have hl:=hv.1
 refine vec_ext (p:=p) (n:=n) (by rw [addD_len (by simp; omega),hv.1]) hv.1 fun i => ?_
 have h:=hv.2 i
 rw [addD_get (by simp; omega),getD_rep,Int.mul_zero,Int.add_zero,Int.emod_eq_of_lt h.1 h.2]
theorem zero_addD {p : Int} {n : Nat} {v : List Int} (hv : Vec p n v) : addD p 1 (List.replicate n 0) v=v:=by
 have hl:=hv.1
 refine vec_ext (p:=p) (n:=n) (by rw [addD_len (by simp; omega)]; simp) hv.1 fun i => ?_
 have h:=hv.2 i
 rw [addD_get (by simp; omega),getD_rep,Int.zero_add,Int.one_mul,Int.emod_eq_of_lt h.1 h.2]
theorem vec_zero_iff {p : Int} {n : Nat} {v : List Int} (hv : v.length=n) : v=List.replicate n 0↔∀ i,v.getD i 0=0:=by
 constructor
 . intro h i; rw [h,getD_rep]
 . intro h; exact vec_ext (p:=p) (n:=n) hv (by simp) fun i => by rw [h i,getD_rep]
inductive Sp (p : Int) (n : Nat) (R : List (List Int)) : List Int->Prop
 | zero : Sp p n R (List.replicate n 0)
 | add {v r : List Int} (k : Int) : Sp p n R v->r ∈ R->Sp p n R (addD p k v r)
def AllV (p : Int) (n : Nat) (R : List (List Int)) : Prop:=∀ r ∈ R,Vec p n r
section
variable {p : Int} {n : Nat} (hp : 0 < p)
include hp
theorem Sp.vec {R : List (List Int)} {v : List Int} (hR : AllV p n R) (h : Sp p n R v) : Vec p n v:=by
 induction h with
 | zero => exact Vec.zero hp n
 | add k _ hr ih => exact Vec.addD hp ih.1 (hR _ hr).1
theorem Sp.plus {R : List (List Int)} {v w : List Int} (hR : AllV p n R) (k : Int) (hv : Sp p n R v) (hw : Sp p n R w) : Sp p n R (addD p k v w):=by
 induction hw with
 | zero => rw [addD_z (hv.vec hp hR)]; exact hv
 | add j hw hr ih =>
   rw [addD_addD (n:=n) (hv.vec hp hR).1 (hw.vec hp hR).1 (hR _ hr).1]
   exact .add _ ih hr
theorem Sp.self {R : List (List Int)} {r : List Int} (hR : AllV p n R) (hr : r ∈ R) : Sp p n R r:=by
 rw [← zero_addD (hR r hr)]
 exact .add 1 .zero hr
theorem Sp.trans {R R' : List (List Int)} {v : List Int} (hR' : AllV p n R') (h : ∀ r ∈ R,Sp p n R' r) (hv : Sp p n R v) : Sp p n R' v:=by
 induction hv with
 | zero => exact .zero
 | add k _ hr ih => exact ih.plus hp hR' k (h _ hr)
def redD (p : Int) (ld : List Int->Nat) (R : List (List Int)) (a : List Int) : List Int:=R.foldl (fun a r => addD p (p - a.getD (ld r) 0) a r) a
omit hp in
theorem redD_cons (ld : List Int->Nat) (r : List Int) (R : List (List Int)) (a : List Int) : redD p ld (r :: R) a=redD p ld R (addD p (p - a.getD (ld r) 0) a r):=rfl
theorem redD_vec (ld : List Int->Nat) {R : List (List Int)} : ∀ {a : List Int},AllV p n R->Vec p n a->Vec p n (redD p ld R a):=by
 induction R with
 | nil => exact fun _ h => h
 | cons r R ih => exact fun hR ha => ih (fun x hx => hR x (by simp [hx])) (Vec.addD hp ha.1 (hR r (by simp)).1)
theorem redD_lin (ld : List Int->Nat) {R : List (List Int)} : ∀ {v w : List Int} (k : Int),AllV p n R->Vec p n v->Vec p n w->redD p ld R (addD p k v w)=addD p k (redD p ld R v) (redD p ld R w):=by
 induction R with
 | nil => exact fun _ _ _ _ => rfl
 | cons r R ih =>
   intro v w k hR hv hw
   have hr:=hR r (by simp)
   have hl:=hv.1
   have hl2:=hw.1
   have hl3:=hr.1
   rw [redD_cons,redD_cons,redD_cons,← ih k (fun x hx => hR x (by simp [hx])) (Vec.addD hp hv.1 hr.1) (Vec.addD hp hw.1 hr.1)]
   congr 1
   have h1 : (addD p k v w).length=n:=by rw [addD_len (by omega),hl]
   have h2 : (addD p (p - v.getD (ld r) 0) v r).length=n:=by rw [addD_len (by omega),hl]
   have h3 : (addD p (p - w.getD (ld r) 0) w r).length=n:=by rw [addD_len (by omega),hl2]
   refine vec_ext (p:=p) (n:=n) (by rw [addD_len (by omega),h1]) (by rw [addD_len (by omega),h2]) fun i => ?_
   rw [addD_get (by omega),addD_get (by omega),addD_get (by omega),addD_get (by omega),addD_get (by omega),addD_get (by omega)]
   obtain ⟨t1,e1⟩:=emod_wit p (v.getD i 0 + k * w.getD i 0)
   obtain ⟨t2,e2⟩:=emod_wit p (v.getD (ld r) 0 + k * w.getD (ld r) 0)
   obtain ⟨t3,e3⟩:=emod_wit p (v.getD i 0 + (p - v.getD (ld r) 0) * r.getD i 0)
   obtain ⟨t4,e4⟩:=emod_wit p (w.getD i 0 + (p - w.getD (ld r) 0) * r.getD i 0)
   rw [e1,e2,e3,e4]
   exact emod_eq_of (t1 - t2 * r.getD i 0 - t3 - k * r.getD i 0 - k * t4) (by grind)
theorem redD_zero (ld : List Int->Nat) {R : List (List Int)} (hR : AllV p n R) : redD p ld R (List.replicate n 0)=List.replicate n 0:=by
 induction R with
 | nil => rfl
 | cons r R ih =>
   rw [redD_cons,getD_rep,Int.sub_zero,addD_mul 1 (by omega) (Vec.zero hp n) (hR r (by simp)).1]
   exact ih fun x hx => hR x (by simp [hx])
def Tri (ld : List Int->Nat) (R : List (List Int)) : Prop:=(∀ r ∈ R,r.getD (ld r) 0=1)∧R.Pairwise fun r s => s.getD (ld r) 0=0
theorem redD_row (ld : List Int->Nat) {R : List (List Int)} (hR : AllV p n R) (hT : Tri ld R) : ∀ r ∈ R,redD p ld R r=List.replicate n 0:=by
 induction R with
 | nil => exact fun r hr => by cases hr
 | cons r0 R ih =>
   intro r hr
   have hr0:=hR r0 (by simp)
   have hR' : AllV p n R:=fun x hx => hR x (by simp [hx])
   obtain ⟨h1,h2⟩:=hT
   rw [List.pairwise_cons] at h2
   rw [redD_cons]
   rcases List.mem_cons.1 hr with rfl | hr
   . have hz : addD p (p - r.getD (ld r) 0) r r=List.replicate n 0:=by
      refine (vec_zero_iff (p:=p) (by rw [addD_len rfl,hr0.1])).2 fun i => ?_
      rw [addD_get rfl,h1 r (by simp)]
      rw [emod_eq_of (y:=0) (r.getD i 0) (by grind)]; simp
     rw [hz]
     exact redD_zero hp ld hR'
   . rw [h2.1 r hr,Int.sub_zero,addD_mul 1 (by omega) (hR' r hr) hr0.1]
     exact ih hR' ⟨fun x hx => h1 x (by simp [hx]),h2.2⟩ r hr
theorem redD_sp (ld : List Int->Nat) {R : List (List Int)} {v : List Int} (hR : AllV p n R) (hT : Tri ld R) (hv : Sp p n R v) : redD p ld R v=List.replicate n 0:=by
 induction hv with
 | zero => exact redD_zero hp ld hR
 | add k h hr ih =>
   rw [redD_lin hp ld k hR (h.vec hp hR) (hR _ hr),ih,redD_row hp ld hR hT _ hr]
   exact addD_z (Vec.zero hp n)
theorem redD_in (ld : List Int->Nat) {R R' : List (List Int)} (hR' : AllV p n R') : ∀ {a : List Int},AllV p n R->(∀ r ∈ R,Sp p n R' r)->Vec p n a->(Sp p n R' (redD p ld R a)↔Sp p n R' a):=by
 induction R with
 | nil => exact fun _ _ _ => Iff.rfl
 | cons r R ih =>
   intro a hR hS ha
   have hr:=hR r (by simp)
   have hrS:=hS r (by simp)
   rw [redD_cons,ih (fun x hx => hR x (by simp [hx])) (fun x hx => hS x (by simp [hx])) (Vec.addD hp ha.1 hr.1)]
   generalize p - a.getD (ld r) 0=c
   constructor
   . intro h
     have:=h.plus hp hR' (-c) hrS
     rwa [addD_same (n:=n) ha.1 hr.1,addD_mul 0 (by omega) ha hr.1] at this
   . exact fun h => h.plus hp hR' c hrS
theorem red_iff (ld : List Int->Nat) {R : List (List Int)} {a : List Int} (hR : AllV p n R) (hT : Tri ld R) (ha : Vec p n a) : redD p ld R a=List.replicate n 0↔Sp p n R a:=by
 constructor
 . intro h
   have h1:=redD_in hp ld (a:=a) hR hR (fun r hr => Sp.self hp hR hr) ha
   rw [h] at h1
   exact h1.1 .zero
 . exact redD_sp hp ld hR hT
theorem redD_lead (ld : List Int->Nat) {R : List (List Int)} (hR : AllV p n R) (hT : Tri ld R) : ∀ {a : List Int},Vec p n a->∀ r ∈ R,(redD p ld R a).getD (ld r) 0=0:=by
 have stay : ∀ (R : List (List Int)) (m : Nat) (a : List Int),AllV p n R->(∀ r ∈ R,r.getD m 0=0)->Vec p n a->a.getD m 0=0->(redD p ld R a).getD m 0=0:=by
  intro R m
  induction R with
  | nil => exact fun a _ _ _ h => h
  | cons r R ih =>
    intro a hR h ha h0
    have hr:=hR r (by simp)
    rw [redD_cons]
    refine ih _ (fun x hx => hR x (by simp [hx])) (fun x hx => h x (by simp [hx])) (Vec.addD hp ha.1 hr.1) ?_
    rw [addD_get (by rw [ha.1,hr.1]),h0,h r (by simp)]; simp
 induction R with
 | nil =>
   intro a _ r hr
   cases hr
 | cons r0 R ih =>
   intro a ha r hr
   have hr0:=hR r0 (by simp)
   have hR' : AllV p n R:=fun x hx => hR x (by simp [hx])
   obtain ⟨h1,h2⟩:=hT
   rw [List.pairwise_cons] at h2
   have hv:=Vec.addD (p:=p) (k:=p - a.getD (ld r0) 0) hp ha.1 hr0.1
   rw [redD_cons]
   rcases List.mem_cons.1 hr with rfl | hr
   . refine stay R _ _ hR' h2.1 hv ?_
     rw [addD_get (by rw [ha.1,hr0.1]),h1 r (by simp),Int.mul_one]
     rw [emod_eq_of (y:=0) 1 (by omega)]; simp
   . exact ih hR' ⟨fun x hx => h1 x (by simp [hx]),h2.2⟩ hv r hr
def SpEq (p : Int) (n : Nat) (R R' : List (List Int)) : Prop:=∀ v,Sp p n R v↔Sp p n R' v
theorem sp_tri (ld : List Int->Nat) {R : List (List Int)} {a : List Int} {k c : Int} (hR : AllV p n R) (ha : Vec p n a) (hk : k * c % p=1) : SpEq p n (R++[addD p k (List.replicate n 0) (redD p ld R a)]) (R++[a]):=by
 have hrest:=redD_vec hp ld hR ha
 have hn:=Vec.addD (p:=p) (k:=k) hp (a:=List.replicate n 0) (n:=n) (by simp) hrest.1
 have hA : AllV p n (R++[a]):=fun x hx => by
  rcases List.mem_append.1 hx with h | h
  . exact hR x h
  . rw [List.mem_singleton.1 h]; exact ha
 have hB : AllV p n (R++[addD p k (List.replicate n 0) (redD p ld R a)]):=fun x hx => by
  rcases List.mem_append.1 hx with h | h
  . exact hR x h
  . rw [List.mem_singleton.1 h]; exact hn
 have hback : addD p c (List.replicate n 0) (addD p k (List.replicate n 0) (redD p ld R a))=redD p ld R a:=by
  have hl:=hrest.1
  rw [addD_addD (n:=n) (by simp) (by simp) hl,addD_z (Vec.zero hp n)]
  refine vec_ext (p:=p) (n:=n) (by rw [addD_len (by simp; omega)]; simp) hl fun i => ?_
  have h:=hrest.2 i
  rw [addD_get (by simp; omega),getD_rep,Int.zero_add]
  obtain ⟨t,e⟩:=emod_wit p (k * c)
  rw [hk] at e
  rw [emod_eq_of (y:=(redD p ld R a).getD i 0) (-t * (redD p ld R a).getD i 0) (by grind),Int.emod_eq_of_lt h.1 h.2]
 intro v
 constructor
 . refine Sp.trans hp hA fun r hr => ?_
   rcases List.mem_append.1 hr with h | h
   . exact Sp.self hp hA (List.mem_append.2 (.inl h))
   . rw [List.mem_singleton.1 h]
     refine Sp.plus hp hA k .zero ?_
     refine (redD_in hp ld hA hR (fun x hx => Sp.self hp hA (List.mem_append.2 (.inl hx))) ha).2 ?_
     exact Sp.self hp hA (List.mem_append.2 (.inr (List.mem_singleton.2 rfl)))
 . refine Sp.trans hp hB fun r hr => ?_
   rcases List.mem_append.1 hr with h | h
   . exact Sp.self hp hB (List.mem_append.2 (.inl h))
   . rw [List.mem_singleton.1 h]
     refine (redD_in hp ld hB hR (fun x hx => Sp.self hp hB (List.mem_append.2 (.inl hx))) ha).1 ?_
     have h9:=Sp.plus hp hB c .zero (Sp.self hp hB (List.mem_append.2 (.inr (List.mem_singleton.2 rfl))))
     rwa [hback] at h9
end
end Abs.Y

namespace Abs.Y
open Go Go.Proofs Abs
open Nat renaming reduceEqDiff -> Qa, reduceLT -> Qb, reduceAdd -> Qc, reduceMul -> Qd, reduceSub -> Qe, reduceLeDiff -> Qf, reduceSubDiff -> Qg, reduceBEq -> Qh
open Bool renaming not_eq_true' -> Ba, not_eq_false' -> Bb, and_eq_true -> Bc, or_eq_true -> Bh, or_eq_false_iff -> Be
open Int renaming ofNat_lt -> Ia, ofNat_le -> Ib, not_lt -> Ic, not_le -> Ie
open Decidable renaming not_not -> Da
set_option maxRecDepth 100000

structure Lds (κ : Nat->Nat) (n : Nat) (ld : List Int->Nat) : Prop where
 inj : ∀ i j,i < n->j < n->κ i=κ j->i=j
 top : ∀ v : List Int,v.length=n->∀ i,v.getD i 0 ≠ 0->v.getD (ld v) 0 ≠ 0∧κ i<=κ (ld v)
theorem lt_of_get {v : List Int} {i : Nat} (h : v.getD i 0 ≠ 0) : i < v.length:=by
 by_cases hi : i < v.length
 . exact hi
 . exact absurd (getD_oob (by omega)) h
theorem Lds.eq {κ : Nat->Nat} {n : Nat} {ld : List Int->Nat} (h : Lds κ n ld) {v : List Int} (hv : v.length=n) {m : Nat} (hm : v.getD m 0 ≠ 0) (hle : ∀ i,v.getD i 0 ≠ 0->κ i<=κ m) : ld v=m:=by
 obtain ⟨h1,h2⟩:=h.top v hv m hm
 have h3:=hle _ h1
 have:=lt_of_get h1
 have:=lt_of_get hm
 exact h.inj _ _ (by omega) (by omega) (by omega)
structure Ech (p : Int) (n : Nat) (ld : List Int->Nat) (R : List (List Int)) : Prop where
 vec : AllV p n R
 one : ∀ r ∈ R,r.getD (ld r) 0=1
 pw : R.Pairwise fun r s => s.getD (ld r) 0=0∧r.getD (ld s) 0=0
theorem Ech.tri {p : Int} {n : Nat} {ld : List Int->Nat} {R : List (List Int)} (h : Ech p n ld R) : Tri ld R:=⟨h.one,h.pw.imp fun h => h.1⟩
theorem Ech.nil {p : Int} {n : Nat} {ld : List Int->Nat} : Ech p n ld []:=⟨fun _ h => (by cases h),fun _ h => (by cases h),.nil⟩
theorem Ech.perm {p : Int} {n : Nat} {ld : List Int->Nat} {R R' : List (List Int)} (h : Ech p n ld R) (e : R.Perm R') : Ech p n ld R' :=
 ⟨fun r hr => h.vec r (e.mem_iff.2 hr),fun r hr => h.one r (e.mem_iff.2 hr),(e.pairwise_iff fun h => ⟨h.2,h.1⟩).1 h.pw⟩
def clr (p : Int) (m : Nat) (rest : List Int) (r : List Int) : List Int:=addD p (p - r.getD m 0) r rest
def invN (p c : Int) : Nat:=if c=1 then 1 else if p=3 then 2 else if c=2 then 3 else if c=3 then 2 else 4
theorem invN_ok {p c : Int} (hp5 : p=2∨p=3∨p=5) (hc : 0 < c∧c < p) : 1<=invN p c∧(invN p c : Int) < p∧c * (invN p c : Int) % p=1∧∀ j : Nat,1<=j->j < invN p c->¬ c * (j : Int) % p=1:=by
 have key : ∀ j : Nat,j < 4->j=0∨j=1∨j=2∨j=3:=by omega
 have : (p=2∧c=1)∨(p=3∧c=1)∨(p=3∧c=2)∨(p=5∧c=1)∨(p=5∧c=2)∨(p=5∧c=3)∨(p=5∧c=4):=by omega
 rcases this with ⟨rfl,rfl⟩ | ⟨rfl,rfl⟩ | ⟨rfl,rfl⟩ | ⟨rfl,rfl⟩ | ⟨rfl,rfl⟩ | ⟨rfl,rfl⟩ | ⟨rfl,rfl⟩ <;>
  refine ⟨by decide,by decide,by decide,fun j h1 h2 => ?_⟩ <;>
  rcases key j (Nat.lt_of_lt_of_le h2 (by decide)) with rfl | rfl | rfl | rfl<;>first | (exact absurd h1 (by decide)) | (exact absurd h2 (by decide)) | decide
section
variable {p : Int} {n : Nat} {κ : Nat->Nat} {ld : List Int->Nat} (hp : 1 < p) (hL : Lds κ n ld)
include hp
include hL
theorem Ech.add {R : List (List Int)} {rest : List Int} {k : Int} (h : Ech p n ld R) (hv : Vec p n rest) (h0 : ∀ r ∈ R,rest.getD (ld r) 0=0) (hnz : rest.getD (ld rest) 0 ≠ 0) (hk : k * rest.getD (ld rest) 0 % p=1) :
 let row:=addD p k (List.replicate n 0) rest
 Vec p n row∧ld row=ld rest∧(∀ r ∈ R,ld (clr p (ld rest) row r)=ld r)∧Ech p n ld (R.map (clr p (ld rest) row)++[row]):=by
 intro row
 have hl:=hv.1
 have hrow : Vec p n row:=Vec.addD (by omega) (a:=List.replicate n 0) (by simp) hl
 have hg : ∀ i,row.getD i 0=k * rest.getD i 0 % p:=fun i => by
  show (addD p k (List.replicate n 0) rest).getD i 0=_
  rw [addD_get (by simp; omega),getD_rep,Int.zero_add]
 have hr0 : ∀ i,row.getD i 0 ≠ 0->rest.getD i 0 ≠ 0:=fun i h1 h2 => h1 (by rw [hg,h2]; simp)
 have hone : row.getD (ld rest) 0=1:=by rw [hg,hk]
 have htop : ∀ i,row.getD i 0 ≠ 0->κ i<=κ (ld rest):=fun i hi => (hL.top rest hl i (hr0 i hi)).2
 have hld : ld row=ld rest:=hL.eq hrow.1 (by rw [hone]; decide) htop
 have hz : ∀ r ∈ R,row.getD (ld r) 0=0:=fun r hr => by rw [hg,h0 r hr]; simp
 have hcg : ∀ r ∈ R,∀ i,(clr p (ld rest) row r).getD i 0=(r.getD i 0 + (p - r.getD (ld rest) 0) * row.getD i 0) % p:=fun r hr i => by
  have:=(h.vec r hr).1
  unfold clr
  rw [addD_get (by have:=hrow.1; omega)]
 have hcv : ∀ r ∈ R,Vec p n (clr p (ld rest) row r):=fun r hr => Vec.addD (by omega) (h.vec r hr).1 hrow.1
 have hc1 : ∀ r ∈ R,∀ s ∈ R,(clr p (ld rest) row r).getD (ld s) 0=r.getD (ld s) 0:=fun r hr s hs => by
  have:=(h.vec r hr).2 (ld s)
  rw [hcg r hr,hz s hs,Int.mul_zero,Int.add_zero,Int.emod_eq_of_lt this.1 this.2]
 have hcl : ∀ r ∈ R,(clr p (ld rest) row r).getD (ld rest) 0=0:=fun r hr => by
  rw [hcg r hr,hone,Int.mul_one,emod_eq_of (y:=0) 1 (by omega)]; simp
 have hcd : ∀ r ∈ R,ld (clr p (ld rest) row r)=ld r:=fun r hr => by
  have hv1:=h.vec r hr
  refine hL.eq (hcv r hr).1 (by rw [hc1 r hr r hr,h.one r hr]; decide) fun i hi => ?_
  by_cases hri : r.getD i 0=0
  . rw [hcg r hr,hri,Int.zero_add] at hi
    by_cases hm : r.getD (ld rest) 0=0
    . rw [hm,Int.sub_zero,Int.mul_emod_right] at hi; exact absurd rfl hi
    . have h1 : row.getD i 0 ≠ 0:=fun h => hi (by rw [h]; simp)
      exact Nat.le_trans (htop i h1) (hL.top r hv1.1 _ hm).2
  . exact (hL.top r hv1.1 i hri).2
 refine ⟨hrow,hld,hcd,⟨fun x hx => ?_,fun x hx => ?_,?_⟩⟩
 . rcases List.mem_append.1 hx with h1 | h1
   . obtain ⟨r,hr,rfl⟩:=List.mem_map.1 h1; exact hcv r hr
   . rw [List.mem_singleton.1 h1]; exact hrow
 . rcases List.mem_append.1 hx with h1 | h1
   . obtain ⟨r,hr,rfl⟩:=List.mem_map.1 h1
     rw [hcd r hr,hc1 r hr r hr]; exact h.one r hr
   . rw [List.mem_singleton.1 h1,hld]; exact hone
 . rw [List.pairwise_append]
   refine ⟨?_,List.pairwise_singleton _ _,fun a ha b hb => ?_⟩
   . rw [List.pairwise_map]
     refine List.Pairwise.imp_of_mem (fun {a b} ha hb hab => ?_) h.pw
     rw [hcd a ha,hcd b hb,hc1 b hb a ha,hc1 a ha b hb]; exact hab
   . obtain ⟨r,hr,rfl⟩:=List.mem_map.1 ha
     rw [List.mem_singleton.1 hb,hcd r hr,hld]
     exact ⟨hz r hr,hcl r hr⟩
end
section
variable {p : Int} {n : Nat} (hp : 0 < p)
include hp
theorem sp_clr {R : List (List Int)} {row : List Int} (m : Nat) (hR : AllV p n R) (hrow : Vec p n row) : SpEq p n (R.map (clr p m row)++[row]) (R++[row]):=by
 have hA : AllV p n (R++[row]):=fun x hx => by
  rcases List.mem_append.1 hx with h | h
  . exact hR x h
  . rw [List.mem_singleton.1 h]; exact hrow
 have hB : AllV p n (R.map (clr p m row)++[row]):=fun x hx => by
  rcases List.mem_append.1 hx with h | h
  . obtain ⟨r,hr,rfl⟩:=List.mem_map.1 h; exact Vec.addD hp (hR r hr).1 hrow.1
  . rw [List.mem_singleton.1 h]; exact hrow
 have s1 : Sp p n (R++[row]) row:=Sp.self hp hA (List.mem_append.2 (.inr (List.mem_singleton.2 rfl)))
 have s2 : Sp p n (R.map (clr p m row)++[row]) row:=Sp.self hp hB (List.mem_append.2 (.inr (List.mem_singleton.2 rfl)))
 intro v
 constructor
 . refine Sp.trans hp hA fun x hx => ?_
   rcases List.mem_append.1 hx with h | h
   . obtain ⟨r,hr,rfl⟩:=List.mem_map.1 h
     exact Sp.plus hp hA _ (Sp.self hp hA (List.mem_append.2 (.inl hr))) s1
   . rw [List.mem_singleton.1 h]; exact s1
 . refine Sp.trans hp hB fun x hx => ?_
   rcases List.mem_append.1 hx with h | h
   . have h1:=Sp.plus hp hB (-(p - x.getD m 0)) (Sp.self hp hB (List.mem_append.2 (.inl (List.mem_map_of_mem (f:=clr p m row) h)))) s2
     unfold clr at h1
     rwa [addD_same (n:=n) (hR x h).1 hrow.1,addD_mul 0 (by omega) (hR x h) hrow.1] at h1
   . rw [List.mem_singleton.1 h]; exact s2
theorem SpEq.perm {R R' : List (List Int)} (hR : AllV p n R) (e : R.Perm R') : SpEq p n R R':=by
 have hR' : AllV p n R':=fun r hr => hR r (e.mem_iff.2 hr)
 intro v
 exact ⟨Sp.trans hp hR' fun r hr => Sp.self hp hR' (e.mem_iff.1 hr),Sp.trans hp hR fun r hr => Sp.self hp hR (e.mem_iff.2 hr)⟩
end
end Abs.Y
