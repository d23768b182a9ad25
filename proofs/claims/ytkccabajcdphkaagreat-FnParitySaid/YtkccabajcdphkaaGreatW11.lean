/- What functions of this program compute, over plain data. No condition. -/
import Derived.Test.YtkccabajcdphkaaGreatK8
import Derived.Test.YtkccabajcdphkaaGreatK14
import Derived.Test.YtkccabajcdphkaaGreatW4
import Derived.Test.YtkccabajcdphkaaGreatPLI
import Derived.Test.YtkccabajcdphkaaGreatChecked
import Derived.Shelf.SlicesE.Kit
import Derived.Shelf.RegionOpenPlain
import Derived.WalkKit
import Derived.Deep.RegionLaw
import Derived.Lib.Walk
import Derived.Deep.LoopGhost
import Derived.Sort.WalkB12
import Derived.Lib.SlicesDelete
import Derived.Lib.SliceRun
set_option linter.all false
namespace Abs.Y
open Go Go.Proofs Abs
open Nat renaming reduceEqDiff -> Qa, reduceLT -> Qb, reduceAdd -> Qc, reduceMul -> Qd, reduceSub -> Qe, reduceLeDiff -> Qf, reduceSubDiff -> Qg, reduceBEq -> Qh
open Bool renaming not_eq_true' -> Ba, not_eq_false' -> Bb, and_eq_true -> Bc, or_eq_true -> Bh, or_eq_false_iff -> Be
open Int renaming ofNat_lt -> Ia, ofNat_le -> Ib, not_lt -> Ic, not_le -> Ie
open Decidable renaming not_not -> Da
set_option maxRecDepth 100000

theorem zi6 (b k : Nat) : 0<=bitI b k∧bitI b k<=1:=by unfold bitI; split<;>omega
theorem yl5 (g : Chg) (b : Nat) (ks : List Int) (i : Nat) (h : i < ks.length) : sumW g b (ks.take (i + 1))=sumW g b (ks.take i) + bitI b (ks.getD i 0).toNat:=xn7 _ _ _ 0 i h
theorem zg3 (g : Chg) (b : Nat) (ks : List Int) : ∀ i,i<=ks.length->0<=sumW g b (ks.take i)∧sumW g b (ks.take i)<=i
 | 0,_ => by simp [sumW]
 | i + 1, h => by
   have ih:=zg3 g b ks i (by omega)
   have:=zi6 b (ks.getD i 0).toNat
   rw [yl5 g b ks i (by omega)]
   omega
set_option maxHeartbeats 4000000 in
theorem zj3 (g : Chg) (v : Int) (b : Nat) (hg : xc7 g=true) (hv : 0<=v∧v.toNat < g.ch.length) (hb : b < 2 ^ 62) : Ctr Tryz.prog 48 [D.chg g,.int .i64 v,.int .i64 b] false (.d (.bool (xv6 g v b))) []:=by
 have hs:=(xd4 hg).1
 have hel:=hs.2
 have c1:=zv1 g v (by unfold xl0 at hs; omega)
 have hch:=zt1 hg hv.2
 have hmem:=fun j (hj : j < (xb0 g v).length) => xk2 (xc0 (z:=(0 : Int)) hj)
 have hen : (xb0 g v).length<=g.ed.length:=xg4 g v _
 have hw : xv6 g v b=decide (Int.tmod (g.ch.getD v.toNat 0 + sumW g b ((xb0 g v).take (xb0 g v).length)) 2=1):=by rw [List.take_length]; rfl
 rw [hw]
 unfold xl0 at hs
 generalize xb0 g v=ks at *
 have hbd:=zg3 g b ks
 refine Ctr.of (n:=33) (rs:=[.tmp 6]) Tryz.func48 rfl rfl Tryz.ntmps48 rfl rfl (by kernel_rfl) Tryz.checked.mixed ?_
 simp (disch:=first | omega | decide +kernel) only [D.chg,D.ints,go_sem,Qa,Qb,Qc,Qd,Qe,↓reduceIte,reduceCtorEq,Qf,Qg,Qh]
 simp only [D.chg,D.ints] at c1
 (repeat' (first | ((first | (refine xa0 ?_ ?_<;>intro q'<;>(have h':=q')<;>(try simp only [zz] at h')<;>try (exfalso; omega)) | (have q':=trivial; first | refine xa3 (c1) rfl (by decide) ?_ | refine xa4 (c1) rfl ?_ | refine hE _ _ xa5 ?_ | refine hE _ _ xa2 ?_))<;>(try simp (disch:=first | omega | decide +kernel) only [q',D.chg,D.ints,go_sem,Qa,Qb,Qc,Qd,Qe,↓reduceIte,reduceCtorEq,Qf,Qg,Qh])<;>clear q') | (with_reducible first | refine And.intro ?_ ?_ | omega) | (refine xa1 ?_; omega)))
 refine Ok.loopN [29,28,27,26,25,24,23,22,21,20,19,16,15,14,13,12,11,10,9,8,7,5,4,3,1,0] (fun i _ => [(19,.d (.int .i64 (i : Nat))),(7,.d (.int .i64 (g.ch.getD v.toNat 0 + sumW g b (ks.take i))))]) (fun _ (_ : Unit) => []) ks.length
  (fun _ _ => True) () trivial (by simp only [List.take_zero,show sumW g b []=0 from rfl,Int.add_zero]; exact (Wk.kk)) ?_
 rintro R i _ hN hE hi _
 have hbi:=hbd i hi
 by_cases hlt : i < ks.length
 . have hm:=hmem i hlt
   have hbs:=hbd (i + 1) (by omega)
   have hsu:=yl5 g b ks i hlt
   have hbt:=zo1 (b:=b) (k:=(ks.getD i 0).toNat) (by omega) (by omega)
   rw [show IntKind.bits .i64=64 from rfl] at hbt
   have hbt2:=zi6 b (ks.getD i 0).toNat
   simp (disch:=first | omega | decide +kernel) only [go_sem,Qa,Qb,Qc,Qd,Qe,↓reduceIte,reduceCtorEq,Qf,Qg,Qh]
   (repeat' (first | ((first | (refine xa0 ?_ ?_<;>intro q'<;>(have h':=q')<;>(try simp only [zz] at h')<;>try (exfalso; omega)) | (have q':=trivial; first | refine hE _ _ xa5 ?_ | refine hE _ _ xa2 ?_))<;>(try simp (disch:=first | omega | decide +kernel) only [q',hbt,go_sem,Qa,Qb,Qc,Qd,Qe,↓reduceIte,reduceCtorEq,Qf,Qg,Qh])<;>clear q') | (with_reducible first | refine And.intro ?_ ?_ | omega) | (refine xa1 ?_; omega)))
   refine hN () _ hlt trivial (by refine Wk.auto ?_ ?_<;>simp [xb1,lk,killL,St.kill,xb4,xb6,AV.has,AV.hasL,AO.wipe,List.map_set,xc2,insL,xc4,ins,hsu,Int.add_assoc])
 . obtain rfl : i=ks.length:=by omega
   simp (disch:=first | omega | decide +kernel) only [go_sem,Qa,Qb,Qc,Qd,Qe,↓reduceIte,reduceCtorEq,Qf,Qg,Qh]
   (repeat' (first | ((first | (refine xa0 ?_ ?_<;>intro q'<;>(have h':=q')<;>(try simp only [zz] at h')<;>try (exfalso; omega)) | (have q':=trivial; first | refine hE _ _ xa5 ?_ | refine hE _ _ xa2 ?_))<;>(try simp (disch:=first | omega | decide +kernel) only [q',go_sem,Qa,Qb,Qc,Qd,Qe,↓reduceIte,reduceCtorEq,Qf,Qg,Qh])<;>clear q') | (with_reducible first | refine And.intro ?_ ?_ | omega) | (refine xa1 ?_; omega)))
   all_goals (first | rfl | omega | (exfalso; omega))
set_option maxHeartbeats 4000000 in
theorem yp3 (g : Chg) (v : Int) (b : Nat) (hg : xc7 g=true) (hv : 0<=v∧v.toNat < g.ch.length) (hb : b < 2 ^ 62) : Ctr Tryz.prog 51 [D.chg g,.int .i64 v,.int .i64 b] false (.d (.bool (xv6 g v b))) []:=by
 have hs:=(xd4 hg).1
 have hel:=hs.2
 have c1:=ye0 g v (by unfold xl0 at hs; omega)
 have hch:=zt1 hg hv.2
 have hmem:=fun j (hj : j < (xb0 g v).length) => xk2 (xc0 (z:=(0 : Int)) hj)
 have hen : (xb0 g v).length<=g.ed.length:=xg4 g v _
 have hw : xv6 g v b=decide (Int.tmod (g.ch.getD v.toNat 0 + sumW g b ((xb0 g v).take (xb0 g v).length)) 2=1):=by rw [List.take_length]; rfl
 rw [hw]
 unfold xl0 at hs
 generalize xb0 g v=ks at *
 have hbd:=zg3 g b ks
 refine Ctr.of (n:=36) (rs:=[.tmp 6]) Tryz.func51 rfl rfl Tryz.ntmps51 rfl rfl (by kernel_rfl) Tryz.checked.mixed ?_
 simp (disch:=first | omega | decide +kernel) only [D.chg,D.ints,go_sem,Qa,Qb,Qc,Qd,Qe,↓reduceIte,reduceCtorEq,Qf,Qg,Qh]
 simp only [D.chg,D.ints] at c1
 (repeat' (first | ((first | (refine xa0 ?_ ?_<;>intro q'<;>(have h':=q')<;>(try simp only [zz] at h')<;>try (exfalso; omega)) | (have q':=trivial; first | refine xa3 (c1) rfl (by decide) ?_ | refine xa4 (c1) rfl ?_ | refine hE _ _ xa5 ?_ | refine hE _ _ xa2 ?_))<;>(try simp (disch:=first | omega | decide +kernel) only [q',D.chg,D.ints,go_sem,Qa,Qb,Qc,Qd,Qe,↓reduceIte,reduceCtorEq,Qf,Qg,Qh])<;>clear q') | (with_reducible first | refine And.intro ?_ ?_ | omega) | (refine xa1 ?_; omega)))
 refine Ok.loopN [32,31,30,29,28,27,26,25,24,23,22,21,20,19,18,17,16,15,14,13,12,11,10,9,7,5,4,3,1,0] (fun i _ => [(9,.d (.int .i64 (i : Nat))),(7,.d (.int .i64 (g.ch.getD v.toNat 0 + sumW g b (ks.take i))))]) (fun _ (_ : Unit) => []) ks.length
  (fun _ _ => True) () trivial (by simp only [List.take_zero,show sumW g b []=0 from rfl,Int.add_zero]; exact (Wk.kk)) ?_
 rintro R i _ hN hE hi _
 have hbi:=hbd i hi
 by_cases hlt : i < ks.length
 . have hm:=hmem i hlt
   have hbs:=hbd (i + 1) (by omega)
   have hsu:=yl5 g b ks i hlt
   have hbt:=zo1 (b:=b) (k:=(ks.getD i 0).toNat) (by omega) (by omega)
   rw [show IntKind.bits .i64=64 from rfl] at hbt
   have hbt2:=zi6 b (ks.getD i 0).toNat
   simp (disch:=first | omega | decide +kernel) only [go_sem,Qa,Qb,Qc,Qd,Qe,↓reduceIte,reduceCtorEq,Qf,Qg,Qh]
   (repeat' (first | ((first | (refine xa0 ?_ ?_<;>intro q'<;>(have h':=q')<;>(try simp only [zz] at h')<;>try (exfalso; omega)) | (have q':=trivial; first | refine hE _ _ xa5 ?_ | refine hE _ _ xa2 ?_))<;>(try simp (disch:=first | omega | decide +kernel) only [q',hbt,go_sem,Qa,Qb,Qc,Qd,Qe,↓reduceIte,reduceCtorEq,Qf,Qg,Qh])<;>clear q') | (with_reducible first | refine And.intro ?_ ?_ | omega) | (refine xa1 ?_; omega)))
   refine hN () _ hlt trivial (by refine Wk.auto ?_ ?_<;>simp [xb1,lk,killL,St.kill,xb4,xb6,AV.has,AV.hasL,AO.wipe,List.map_set,xc2,insL,xc4,ins,hsu,Int.add_assoc])
 . obtain rfl : i=ks.length:=by omega
   simp (disch:=first | omega | decide +kernel) only [go_sem,Qa,Qb,Qc,Qd,Qe,↓reduceIte,reduceCtorEq,Qf,Qg,Qh]
   (repeat' (first | ((first | (refine xa0 ?_ ?_<;>intro q'<;>(have h':=q')<;>(try simp only [zz] at h')<;>try (exfalso; omega)) | (have q':=trivial; first | refine hE _ _ xa5 ?_ | refine hE _ _ xa2 ?_))<;>(try simp (disch:=first | omega | decide +kernel) only [q',go_sem,Qa,Qb,Qc,Qd,Qe,↓reduceIte,reduceCtorEq,Qf,Qg,Qh])<;>clear q') | (with_reducible first | refine And.intro ?_ ?_ | omega) | (refine xa1 ?_; omega)))
   all_goals (first | rfl | omega | (exfalso; omega))
end Abs.Y

namespace Abs.Y
open Go Go.Proofs Abs
open Nat renaming reduceEqDiff -> Qa, reduceLT -> Qb, reduceAdd -> Qc, reduceMul -> Qd, reduceSub -> Qe, reduceLeDiff -> Qf, reduceSubDiff -> Qg, reduceBEq -> Qh
open Bool renaming not_eq_true' -> Ba, not_eq_false' -> Bb, and_eq_true -> Bc, or_eq_true -> Bh, or_eq_false_iff -> Be
open Int renaming ofNat_lt -> Ia, ofNat_le -> Ib, not_lt -> Ic, not_le -> Ie
open Decidable renaming not_not -> Da
set_option maxRecDepth 100000

def wrTo (g : Chg) (b m : Nat) : List Int:=((List.range m).filter fun v => !(satV g b v)).map fun v : Nat => (v : Int)
theorem yk8 (g : Chg) (b m : Nat) : wrTo g b (m + 1)=if satV g b m=true then wrTo g b m else wrTo g b m++[(m : Int)]:=by
 unfold wrTo
 rw [List.range_succ,List.filter_append,List.map_append,List.filter_cons,List.filter_nil]
 cases satV g b m<;>simp
theorem yw2 (g : Chg) (b m : Nat) : (wrTo g b m).length<=m:=by
 unfold wrTo
 rw [List.length_map]
 have:=List.length_filter_le (fun v => !(satV g b v)) (List.range m)
 rw [List.length_range] at this
 exact this
def wvB (g : Chg) (x : Int) : Bool:=xc7 g && (decide (0<=x) && decide (x<=((2 ^ g.ed.length : Nat) : Int) - 1))
def wvL (g : Chg) (x : Int) : List Int:=if wvB g x=true then wrTo g x.toNat g.n.toNat else []
theorem bitsOkP_ok (u : Nat) (hu : u<=60) (m : Int) : Ctr Tryz.prog 96 [.int .i64 (u : Nat),.int .i64 m] false (.d (.bool (decide (0<=m) && decide (m<=((2 ^ u : Nat) : Int) - 1)))) []:=by
 have h2 : 2 ^ u<=2 ^ 60:=Nat.pow_le_pow_right (by decide) hu
 have e : IntKind.wrap .i64 (1 * 2 ^ min u 64)=((2 ^ u : Nat) : Int):=xu1 (by omega)
 have c1:=xo2 m 0 (((2 ^ u : Nat) : Int) - 1)
 generalize 2 ^ u=n at *
 refine Ctr.of (n:=10) (rs:=[.tmp 4]) Tryz.func96 rfl rfl Tryz.ntmps96 rfl rfl (by kernel_rfl) Tryz.checked.mixed ?_
 simp (disch:=first | omega | decide +kernel) only [e,Int.toNat_natCast,go_sem,Qa,Qb,Qc,Qd,Qe,↓reduceIte,reduceCtorEq,Qf,Qg,Qh]
 (repeat' (first | ((first | (refine xa0 ?_ ?_<;>intro q'<;>(have h':=q')<;>(try simp only [zz] at h')<;>try (exfalso; omega)) | (have q':=trivial; first | refine xa3 (c1) rfl (by decide) ?_ | refine xa4 (c1) rfl ?_ | refine hE _ _ xa5 ?_ | refine hE _ _ xa2 ?_))<;>(try simp (disch:=first | omega | decide +kernel) only [q',e,Int.toNat_natCast,go_sem,Qa,Qb,Qc,Qd,Qe,↓reduceIte,reduceCtorEq,Qf,Qg,Qh])<;>clear q') | (with_reducible first | refine And.intro ?_ ?_ | omega) | (refine xa1 ?_; omega)))
 all_goals (first | omega)
theorem l6BitsP_ok (u : Nat) (hu : u<=60) (m : Int) : Ctr Tryz.prog 58 [.int .i64 (u : Nat),.int .i64 m] false (.d (.bool (decide (0<=m) && decide (m<=((2 ^ u : Nat) : Int) - 1)))) []:=by
 have h2 : 2 ^ u<=2 ^ 60:=Nat.pow_le_pow_right (by decide) hu
 have e : IntKind.wrap .i64 (1 * 2 ^ min u 64)=((2 ^ u : Nat) : Int):=xu1 (by omega)
 have c1:=xu5 m 0 (((2 ^ u : Nat) : Int) - 1)
 generalize 2 ^ u=n at *
 refine Ctr.of (n:=10) (rs:=[.tmp 4]) Tryz.func58 rfl rfl Tryz.ntmps58 rfl rfl (by kernel_rfl) Tryz.checked.mixed ?_
 simp (disch:=first | omega | decide +kernel) only [e,Int.toNat_natCast,go_sem,Qa,Qb,Qc,Qd,Qe,↓reduceIte,reduceCtorEq,Qf,Qg,Qh]
 (repeat' (first | ((first | (refine xa0 ?_ ?_<;>intro q'<;>(have h':=q')<;>(try simp only [zz] at h')<;>try (exfalso; omega)) | (have q':=trivial; first | refine xa3 (c1) rfl (by decide) ?_ | refine xa4 (c1) rfl ?_ | refine hE _ _ xa5 ?_ | refine hE _ _ xa2 ?_))<;>(try simp (disch:=first | omega | decide +kernel) only [q',e,Int.toNat_natCast,go_sem,Qa,Qb,Qc,Qd,Qe,↓reduceIte,reduceCtorEq,Qf,Qg,Qh])<;>clear q') | (with_reducible first | refine And.intro ?_ ?_ | omega) | (refine xa1 ?_; omega)))
 all_goals (first | omega)
theorem edgeBits_ok (g : Chg) (hl : g.ed.length<=60) (m : Int) : Ctr Tryz.prog 55 [D.chg g,.int .i64 m] false (.d (.bool (decide (0<=m) && decide (m<=((2 ^ g.ed.length : Nat) : Int) - 1)))) []:=by
 have c1:=bitsOkP_ok g.ed.length hl m
 refine Ctr.of (n:=10) (rs:=[.tmp 4]) Tryz.func55 rfl rfl Tryz.ntmps55 rfl rfl (by kernel_rfl) Tryz.checked.mixed ?_
 simp (disch:=first | omega | decide +kernel) only [D.chg,D.ints,List.length_map,go_sem,Qa,Qb,Qc,Qd,Qe,↓reduceIte,reduceCtorEq,Qf,Qg,Qh]
 (repeat' (first | ((first | (refine xa0 ?_ ?_<;>intro q'<;>(have h':=q')<;>(try simp only [zz] at h')<;>try (exfalso; omega)) | (have q':=trivial; first | refine xa3 (c1) rfl (by decide) ?_ | refine xa4 (c1) rfl ?_ | refine hE _ _ xa5 ?_ | refine hE _ _ xa2 ?_))<;>(try simp (disch:=first | omega | decide +kernel) only [q',D.chg,D.ints,List.length_map,go_sem,Qa,Qb,Qc,Qd,Qe,↓reduceIte,reduceCtorEq,Qf,Qg,Qh])<;>clear q') | (with_reducible first | refine And.intro ?_ ?_ | omega) | (refine xa1 ?_; omega)))
theorem xs3 {P : Program} {t u : Nat} {x y : D} {st : St} (js : List Nat) (h : lk t (frzs js st).s=some (.d x)) (h' : lk u (frzs js st).s=some (.d y)) : retQ P [.tmp t,.tmp u] true (.tup [.d x,.d y]) [] .ret st:=by
 refine .inr ⟨rfl,js,?_⟩
 simp only [retO,resV,h,h']
 exact ⟨trivial,.nil rfl,.inl trivial⟩
set_option maxHeartbeats 4000000 in
theorem yz9 (g : Chg) (x : Int) (hl : g.ed.length<=60) (hc : g.ch.length<=60) : Ctr Tryz.prog 18 [D.chg g,.int .i64 x] true (.tup [.d (D.ints (wvL g x)),.d (.bool (wvB g x))]) []:=by
 have c1:=xl8 g (by omega) (by omega)
 have c2:=edgeBits_ok g hl x
 unfold wvL wvB
 cases hb : xc7 g with
 | false =>
   rw [hb] at c1
   simp only [Bool.false_and,Bool.false_eq_true,if_false]
   refine Ctr.of (n:=32) (rs:=[.tmp 4,.tmp 5]) Tryz.func18 rfl rfl Tryz.ntmps18 rfl rfl (by kernel_rfl) Tryz.checked.mixed ?_
   simp (disch:=first | omega | decide +kernel) only [D.chg,D.ints,go_sem,Qa,Qb,Qc,Qd,Qe,↓reduceIte,reduceCtorEq,Qf,Qg,Qh]
   simp only [D.chg,D.ints] at c1
   (repeat' (first | ((first | (refine xa0 ?_ ?_<;>intro q'<;>(have h':=q')<;>(try simp only [zz] at h')<;>try (exfalso; omega)) | (have q':=trivial; first | refine xa3 (c1) rfl (by decide) ?_ | refine xa4 (c1) rfl ?_ | refine hE _ _ xa5 ?_ | refine hE _ _ xa2 ?_))<;>(try simp (disch:=first | omega | decide +kernel) only [q',D.chg,D.ints,go_sem,Qa,Qb,Qc,Qd,Qe,↓reduceIte,reduceCtorEq,Qf,Qg,Qh])<;>clear q') | (with_reducible first | refine And.intro ?_ ?_ | omega) | (refine xa1 ?_; omega)))
   all_goals (first | exact xs3 [] rfl rfl | exact xs3 [4] rfl rfl)
 | true =>
   rw [hb] at c1
   have hg:=xf0.1 hb
   have hn:=hg.n1
   have hcl:=hg.c
   rw [Bool.true_and]
   cases hi : (decide (0<=x) && decide (x<=((2 ^ g.ed.length : Nat) : Int) - 1)) with
   | false =>
     rw [hi] at c2
     simp only [Bool.false_eq_true,if_false]
     refine Ctr.of (n:=32) (rs:=[.tmp 4,.tmp 5]) Tryz.func18 rfl rfl Tryz.ntmps18 rfl rfl (by kernel_rfl) Tryz.checked.mixed ?_
     simp (disch:=first | omega | decide +kernel) only [D.chg,D.ints,go_sem,Qa,Qb,Qc,Qd,Qe,↓reduceIte,reduceCtorEq,Qf,Qg,Qh]
     simp only [D.chg,D.ints] at c1 c2
     (repeat' (first | ((first | (refine xa0 ?_ ?_<;>intro q'<;>(have h':=q')<;>(try simp only [zz] at h')<;>try (exfalso; omega)) | (have q':=trivial; first | refine xa3 (c1) rfl (by decide) ?_ | refine xa4 (c1) rfl ?_ | refine xa3 (c2) rfl (by decide) ?_ | refine xa4 (c2) rfl ?_ | refine hE _ _ xa5 ?_ | refine hE _ _ xa2 ?_))<;>(try simp (disch:=first | omega | decide +kernel) only [q',D.chg,D.ints,go_sem,Qa,Qb,Qc,Qd,Qe,↓reduceIte,reduceCtorEq,Qf,Qg,Qh])<;>clear q') | (with_reducible first | refine And.intro ?_ ?_ | omega) | (refine xa1 ?_; omega)))
     all_goals (first | exact xs3 [] rfl rfl | exact xs3 [4] rfl rfl)
   | true =>
     rw [hi] at c2
     simp only [Bc,decide_eq_true_eq] at hi
     have hm:=hg.m
     have hp : 2 ^ g.ed.length<=2 ^ 12:=Nat.pow_le_pow_right (by decide) hm
     have hx0 : ((x.toNat : Nat) : Int)=x:=by omega
     have hw:=fun v => yk7 hg x.toNat (v:=v)
     have cw:=fun (v : Nat) hv => zj3 g (v : Nat) x.toNat hb hv (by omega)
     rw [hx0] at cw
     rw [show g.n.toNat=g.ch.length by omega]
     have hws:=yk8 g x.toNat
     have hwl:=yw2 g x.toNat
     have hz : wrTo g x.toNat 0=[]:=rfl
     simp only [if_true]
     simp only [D.chg,D.ints] at c1 c2 cw ⊢
     clear hp hi
     refine Ctr.ofK (n:=32) (rs:=[.tmp 4,.tmp 5]) Tryz.func18 rfl rfl Tryz.ntmps18 rfl rfl (by kernel_rfl) Tryz.checked.mixed ?_
     refine Ok.seq (Ok.go ?_)
     simp (disch:=first | omega | decide +kernel) only [D.chg,D.ints,go_sem,Qa,Qb,Qc,Qd,Qe,↓reduceIte,reduceCtorEq,Qf,Qg,Qh]
     refine Ok.seq (Ok.go ?_)
     simp (disch:=first | omega | decide +kernel) only [go_sem,Qa,Qb,Qc,Qd,Qe,↓reduceIte,reduceCtorEq,Qf,Qg,Qh]
     (repeat' (first | ((first | (refine xa0 ?_ ?_<;>intro q'<;>(have h':=q')<;>(try simp only [zz] at h')<;>try (exfalso; omega)) | (have q':=trivial; first | refine xa3 (c1) rfl (by decide) ?_ | refine xa4 (c1) rfl ?_ | refine xa3 (c2) rfl (by decide) ?_ | refine xa4 (c2) rfl ?_ | refine hE _ _ xa5 ?_ | refine hE _ _ xa2 ?_))<;>(try simp (disch:=first | omega | decide +kernel) only [q',go_sem,Qa,Qb,Qc,Qd,Qe,↓reduceIte,reduceCtorEq,Qf,Qg,Qh])<;>clear q') | (with_reducible first | refine And.intro ?_ ?_ | omega) | (refine xa1 ?_; omega)))
     refine Ok.seq (Ok.go ?_)
     simp (disch:=first | omega | decide +kernel) only [go_sem,Qa,Qb,Qc,Qd,Qe,↓reduceIte,reduceCtorEq,Qf,Qg,Qh]
     refine Ok.seq (Ok.seq (Ok.go ?_))
     simp (disch:=first | omega | decide +kernel) only [go_sem,Qa,Qb,Qc,Qd,Qe,↓reduceIte,reduceCtorEq,Qf,Qg,Qh]
     (repeat' (first | ((first | (refine xa0 ?_ ?_<;>intro q'<;>(have h':=q')<;>(try simp only [zz] at h')<;>try (exfalso; omega)) | (have q':=trivial; first | refine hE _ _ xa5 ?_ | refine hE _ _ xa2 ?_))<;>(try simp (disch:=first | omega | decide +kernel) only [q',go_sem,Qa,Qb,Qc,Qd,Qe,↓reduceIte,reduceCtorEq,Qf,Qg,Qh])<;>clear q') | (with_reducible first | refine And.intro ?_ ?_ | omega) | (refine xa1 ?_; omega)))
     refine Ok.block ?_
     refine Ok.loopNO [31,30,29,28,27,26,25,24,23,22,21,20,19,17,16,15,14,13,12,11,10,9,8,7,6,4,3,0] (fun i _ => [(19,.d (.int .i64 (i : Nat))),(6,.sl 6)]) (fun i (_ : Unit) => [(6,.arr 3 1 ((wrTo g x.toNat i).map (.int .i64)))]) g.ch.length (fun _ _ => True) () trivial (by refine Wk.auto ?_ ?_<;>simp [xb1,lk,killL,St.kill,xb4,xb6,AV.has,AV.hasL,AO.wipe,List.map_set,xc2,insL,xc4,ins,hz,List.map_nil]) ?_
     rintro R i _ hN hE1 hi _
     have hlw:=hwl i
     by_cases hlt : i < g.ch.length
     . have c3:=cw i (by omega)
       have hsu:=hws i
       have his : ((i : Int) + 1)=((i + 1 : Nat) : Int):=by omega
       rw [hw i (by omega)] at c3
       refine Ok.seq (Ok.go ?_)
       simp (disch:=first | omega | decide +kernel) only [go_sem,Qa,Qb,Qc,Qd,Qe,↓reduceIte,reduceCtorEq,Qf,Qg,Qh]
       (repeat' (first | ((first | (refine xa0 ?_ ?_<;>intro q'<;>(have h':=q')<;>(try simp only [zz] at h')<;>try (exfalso; omega)) | (have q':=trivial; first | refine hE _ _ xa5 ?_ | refine hE _ _ xa2 ?_))<;>(try simp (disch:=first | omega | decide +kernel) only [q',go_sem,Qa,Qb,Qc,Qd,Qe,↓reduceIte,reduceCtorEq,Qf,Qg,Qh])<;>clear q') | (with_reducible first | refine And.intro ?_ ?_ | omega) | (refine xa1 ?_; omega)))
       generalize wrTo g x.toNat i=wi at *
       cases hsb : satV g x.toNat i with
       | true =>
         rw [hsb] at c3
         rw [if_pos hsb] at hsu
         refine Ok.go ?_
         simp (disch:=first | omega | decide +kernel) only [go_sem,Qa,Qb,Qc,Qd,Qe,↓reduceIte,reduceCtorEq,Qf,Qg,Qh]
         (repeat' (first | ((first | (refine xa0 ?_ ?_<;>intro q'<;>(have h':=q')<;>(try simp only [zz] at h')<;>try (exfalso; omega)) | (have q':=trivial; first | refine xa3 (c3) rfl (by decide) ?_ | refine xa4 (c3) rfl ?_ | refine hE _ _ xa5 ?_ | refine hE _ _ xa2 ?_))<;>(try simp (disch:=first | omega | decide +kernel) only [q',go_sem,Qa,Qb,Qc,Qd,Qe,↓reduceIte,reduceCtorEq,Qf,Qg,Qh])<;>clear q') | (with_reducible first | refine And.intro ?_ ?_ | omega) | (refine xa1 ?_; omega)))
         rw [his]
         refine hN () _ hlt trivial ?_
         rw [hsu]
         exact (by refine Wk.auto ?_ ?_<;>simp [xb1,lk,killL,St.kill,xb4,xb6,AV.has,AV.hasL,AO.wipe,List.map_set,xc2,insL,xc4,ins,])
       | false =>
         rw [hsb] at c3
         rw [if_neg (by rw [hsb]; simp)] at hsu
         refine Ok.go ?_
         simp (disch:=first | omega | decide +kernel) only [go_sem,Qa,Qb,Qc,Qd,Qe,↓reduceIte,reduceCtorEq,Qf,Qg,Qh]
         (repeat' (first | ((first | (refine xa0 ?_ ?_<;>intro q'<;>(have h':=q')<;>(try simp only [zz] at h')<;>try (exfalso; omega)) | (have q':=trivial; first | refine xa3 (c3) rfl (by decide) ?_ | refine xa4 (c3) rfl ?_ | refine hE _ _ xa5 ?_ | refine hE _ _ xa2 ?_))<;>(try simp (disch:=first | omega | decide +kernel) only [q',go_sem,Qa,Qb,Qc,Qd,Qe,↓reduceIte,reduceCtorEq,Qf,Qg,Qh])<;>clear q') | (with_reducible first | refine And.intro ?_ ?_ | omega) | exact xa6 | (refine xa1 ?_; omega) | (refine za9 ⟨?_,?_⟩) | (simp only [go_sem,Qc,Qb,zb1,zb2,forall_eq]; done)))
         rw [his]
         refine hN () _ hlt trivial ?_
         rw [hsu]
         exact (by refine Wk.auto ?_ ?_<;>simp [xb1,lk,killL,St.kill,xb4,xb6,AV.has,AV.hasL,AO.wipe,List.map_set,xc2,insL,xc4,ins,List.map_append,List.map_cons,List.map_nil])
     . obtain rfl : i=g.ch.length:=by omega
       refine Ok.go ?_
       simp (disch:=first | omega | decide +kernel) only [go_sem,Qa,Qb,Qc,Qd,Qe,↓reduceIte,reduceCtorEq,Qf,Qg,Qh]
       (repeat' (first | ((first | (refine xa0 ?_ ?_<;>intro q'<;>(have h':=q')<;>(try simp only [zz] at h')<;>try (exfalso; omega)) | (have q':=trivial; first | refine hE _ _ xa5 ?_ | refine hE _ _ xa2 ?_))<;>(try simp (disch:=first | omega | decide +kernel) only [q',go_sem,Qa,Qb,Qc,Qd,Qe,↓reduceIte,reduceCtorEq,Qf,Qg,Qh])<;>clear q') | (with_reducible first | refine And.intro ?_ ?_ | omega) | (refine xa1 ?_; omega)))
       refine hE1 _ _ xa2 ?_
       simp (disch:=first | omega | decide +kernel) only [go_sem,Qa,Qb,Qc,Qd,Qe,↓reduceIte,reduceCtorEq,Qf,Qg,Qh]
       refine Ok.go ?_
       simp (disch:=first | omega | decide +kernel) only [go_sem,Qa,Qb,Qc,Qd,Qe,↓reduceIte,reduceCtorEq,Qf,Qg,Qh]
       (repeat' (first | ((first | (refine xa0 ?_ ?_<;>intro q'<;>(have h':=q')<;>(try simp only [zz] at h')<;>try (exfalso; omega)) | (have q':=trivial; first | refine hE _ _ xa5 ?_ | refine hE _ _ xa2 ?_))<;>(try simp (disch:=first | omega | decide +kernel) only [q',go_sem,Qa,Qb,Qc,Qd,Qe,↓reduceIte,reduceCtorEq,Qf,Qg,Qh])<;>clear q') | (with_reducible first | refine And.intro ?_ ?_ | omega) | (refine xa1 ?_; omega)))
       all_goals (first | exact xs3 [6] rfl rfl)
set_option maxHeartbeats 4000000 in
theorem wrongS_ok (g : Chg) (x : Int) (hl : g.ed.length<=60) (hc : g.ch.length<=60) : Ctr Tryz.prog 20 [D.chg g,.int .i64 x] true (.tup [.d (D.ints (wvL g x)),.d (.bool (wvB g x))]) []:=by
 have c1:=xt1 g (by omega) (by omega)
 have c2:=l6BitsP_ok g.ed.length hl x
 unfold wvL wvB
 cases hb : xc7 g with
 | false =>
   rw [hb] at c1
   simp only [Bool.false_and,Bool.false_eq_true,if_false]
   refine Ctr.of (n:=36) (rs:=[.tmp 4,.tmp 5]) Tryz.func20 rfl rfl Tryz.ntmps20 rfl rfl (by kernel_rfl) Tryz.checked.mixed ?_
   simp (disch:=first | omega | decide +kernel) only [D.chg,D.ints,go_sem,Qa,Qb,Qc,Qd,Qe,↓reduceIte,reduceCtorEq,Qf,Qg,Qh]
   simp only [D.chg,D.ints] at c1
   (repeat' (first | ((first | (refine xa0 ?_ ?_<;>intro q'<;>(have h':=q')<;>(try simp only [zz] at h')<;>try (exfalso; omega)) | (have q':=trivial; first | refine xa3 (c1) rfl (by decide) ?_ | refine xa4 (c1) rfl ?_ | refine hE _ _ xa5 ?_ | refine hE _ _ xa2 ?_))<;>(try simp (disch:=first | omega | decide +kernel) only [q',D.chg,D.ints,go_sem,Qa,Qb,Qc,Qd,Qe,↓reduceIte,reduceCtorEq,Qf,Qg,Qh])<;>clear q') | refine hN _ ?_ ?_ Wk.kk | (with_reducible first | refine And.intro ?_ ?_ | omega) | exact xb8 | exact xa8 | exact xa6 | with_reducible exact xa7 | (refine xa1 ?_; omega) | (refine za9 ⟨?_,?_⟩) | (simp only [go_sem,Qc,Qb,zb1,zb2,forall_eq]; done)))
   all_goals (first | exact xs3 [] rfl rfl | exact xs3 [8] rfl rfl)
 | true =>
   rw [hb] at c1
   have hg:=xf0.1 hb
   have hn:=hg.n1
   have hcl:=hg.c
   rw [Bool.true_and]
   cases hi : (decide (0<=x) && decide (x<=((2 ^ g.ed.length : Nat) : Int) - 1)) with
   | false =>
     rw [hi] at c2
     simp only [Bool.false_eq_true,if_false]
     refine Ctr.of (n:=36) (rs:=[.tmp 4,.tmp 5]) Tryz.func20 rfl rfl Tryz.ntmps20 rfl rfl (by kernel_rfl) Tryz.checked.mixed ?_
     simp (disch:=first | omega | decide +kernel) only [D.chg,D.ints,go_sem,Qa,Qb,Qc,Qd,Qe,↓reduceIte,reduceCtorEq,Qf,Qg,Qh]
     simp only [D.chg,D.ints] at c1 c2
     (repeat' (first | ((first | (refine xa0 ?_ ?_<;>intro q'<;>(have h':=q')<;>(try simp only [zz] at h')<;>try (exfalso; omega)) | (have q':=trivial; first | refine xa3 (c1) rfl (by decide) ?_ | refine xa4 (c1) rfl ?_ | refine xa3 (c2) rfl (by decide) ?_ | refine xa4 (c2) rfl ?_ | refine hE _ _ xa5 ?_ | refine hE _ _ xa2 ?_))<;>(try simp (disch:=first | omega | decide +kernel) only [q',D.chg,D.ints,go_sem,Qa,Qb,Qc,Qd,Qe,↓reduceIte,reduceCtorEq,Qf,Qg,Qh])<;>clear q') | (with_reducible first | refine And.intro ?_ ?_ | omega) | exact xa6 | (refine xa1 ?_; omega) | (refine za9 ⟨?_,?_⟩) | (simp only [go_sem,Qc,Qb,zb1,zb2,forall_eq]; done)))
     all_goals (first | exact xs3 [] rfl rfl | exact xs3 [8] rfl rfl)
   | true =>
     rw [hi] at c2
     simp only [Bc,decide_eq_true_eq] at hi
     have hm:=hg.m
     have hp : 2 ^ g.ed.length<=2 ^ 12:=Nat.pow_le_pow_right (by decide) hm
     have hx0 : ((x.toNat : Nat) : Int)=x:=by omega
     have hw:=fun v => yk7 hg x.toNat (v:=v)
     have cw:=fun (v : Nat) hv => yp3 g (v : Nat) x.toNat hb hv (by omega)
     rw [hx0] at cw
     rw [show g.n.toNat=g.ch.length by omega]
     have hws:=yk8 g x.toNat
     have hwl:=yw2 g x.toNat
     have hz : wrTo g x.toNat 0=[]:=rfl
     simp only [if_true]
     simp only [D.chg,D.ints] at c1 c2 cw ⊢
     clear hp hi
     refine Ctr.ofK (n:=36) (rs:=[.tmp 4,.tmp 5]) Tryz.func20 rfl rfl Tryz.ntmps20 rfl rfl (by kernel_rfl) Tryz.checked.mixed ?_
     refine Ok.seq (Ok.go ?_)
     simp (disch:=first | omega | decide +kernel) only [D.chg,D.ints,go_sem,Qa,Qb,Qc,Qd,Qe,↓reduceIte,reduceCtorEq,Qf,Qg,Qh]
     refine Ok.seq (Ok.go ?_)
     simp (disch:=first | omega | decide +kernel) only [go_sem,Qa,Qb,Qc,Qd,Qe,↓reduceIte,reduceCtorEq,Qf,Qg,Qh]
     (repeat' (first | ((first | (refine xa0 ?_ ?_<;>intro q'<;>(have h':=q')<;>(try simp only [zz] at h')<;>try (exfalso; omega)) | (have q':=trivial; first | refine hE _ _ xa5 ?_ | refine hE _ _ xa2 ?_))<;>(try simp (disch:=first | omega | decide +kernel) only [q',go_sem,Qa,Qb,Qc,Qd,Qe,↓reduceIte,reduceCtorEq,Qf,Qg,Qh])<;>clear q') | refine hN _ ?_ ?_ Wk.kk | (with_reducible first | refine And.intro ?_ ?_ | omega) | exact xb8 | exact xa8 | exact xa6 | with_reducible exact xa7 | (refine xa1 ?_; omega) | (refine za9 ⟨?_,?_⟩) | (simp only [go_sem,Qc,Qb,zb1,zb2,forall_eq]; done)))
     refine Ok.seq (Ok.go ?_)
     simp (disch:=first | omega | decide +kernel) only [List.length_map,go_sem,Qa,Qb,Qc,Qd,Qe,↓reduceIte,reduceCtorEq,Qf,Qg,Qh]
     (repeat' (first | ((first | (refine xa0 ?_ ?_<;>intro q'<;>(have h':=q')<;>(try simp only [zz] at h')<;>try (exfalso; omega)) | (have q':=trivial; first | refine xa3 (c1) rfl (by decide) ?_ | refine xa4 (c1) rfl ?_ | refine xa3 (c2) rfl (by decide) ?_ | refine xa4 (c2) rfl ?_ | refine hE _ _ xa5 ?_ | refine hE _ _ xa2 ?_))<;>(try simp (disch:=first | omega | decide +kernel) only [q',List.length_map,go_sem,Qa,Qb,Qc,Qd,Qe,↓reduceIte,reduceCtorEq,Qf,Qg,Qh])<;>clear q') | (with_reducible first | refine And.intro ?_ ?_ | omega) | exact xa6 | (refine xa1 ?_; omega) | (refine za9 ⟨?_,?_⟩) | (simp only [go_sem,Qc,Qb,zb1,zb2,forall_eq]; done)))
     refine Ok.seq (Ok.seq (Ok.go ?_))
     simp (disch:=first | omega | decide +kernel) only [go_sem,Qa,Qb,Qc,Qd,Qe,↓reduceIte,reduceCtorEq,Qf,Qg,Qh]
     (repeat' (first | ((first | (refine xa0 ?_ ?_<;>intro q'<;>(have h':=q')<;>(try simp only [zz] at h')<;>try (exfalso; omega)) | (have q':=trivial; first | refine hE _ _ xa5 ?_ | refine hE _ _ xa2 ?_))<;>(try simp (disch:=first | omega | decide +kernel) only [q',go_sem,Qa,Qb,Qc,Qd,Qe,↓reduceIte,reduceCtorEq,Qf,Qg,Qh])<;>clear q') | (with_reducible first | refine And.intro ?_ ?_ | omega) | exact xa6 | (refine xa1 ?_; omega) | (refine za9 ⟨?_,?_⟩) | (simp only [go_sem,Qc,Qb,zb1,zb2,forall_eq]; done)))
     refine Ok.block ?_
     refine Ok.loopNO [35,34,33,32,31,30,29,28,27,26,25,24,23,22,21,20,19,18,17,16,15,14,13,12,11,10,9,8,7,6,4,3,0] (fun i _ => [(7,.d (.int .i64 (i : Nat))),(6,.sl 8)]) (fun i (_ : Unit) => [(8,.arr 3 1 ((wrTo g x.toNat i).map (.int .i64)))]) g.ch.length (fun _ _ => True) () trivial (by refine Wk.auto ?_ ?_<;>simp [xb1,lk,killL,St.kill,xb4,xb6,AV.has,AV.hasL,AO.wipe,List.map_set,xc2,insL,xc4,ins,hz,List.map_nil]) ?_
     rintro R i _ hN hE1 hi _
     have hlw:=hwl i
     by_cases hlt : i < g.ch.length
     . have c3:=cw i (by omega)
       have hsu:=hws i
       have his : ((i : Int) + 1)=((i + 1 : Nat) : Int):=by omega
       rw [hw i (by omega)] at c3
       refine Ok.seq (Ok.go ?_)
       simp (disch:=first | omega | decide +kernel) only [go_sem,Qa,Qb,Qc,Qd,Qe,↓reduceIte,reduceCtorEq,Qf,Qg,Qh]
       (repeat' (first | ((first | (refine xa0 ?_ ?_<;>intro q'<;>(have h':=q')<;>(try simp only [zz] at h')<;>try (exfalso; omega)) | (have q':=trivial; first | refine hE _ _ xa5 ?_ | refine hE _ _ xa2 ?_))<;>(try simp (disch:=first | omega | decide +kernel) only [q',go_sem,Qa,Qb,Qc,Qd,Qe,↓reduceIte,reduceCtorEq,Qf,Qg,Qh])<;>clear q') | (with_reducible first | refine And.intro ?_ ?_ | omega) | exact xa6 | (refine xa1 ?_; omega) | (refine za9 ⟨?_,?_⟩) | (simp only [go_sem,Qc,Qb,zb1,zb2,forall_eq]; done)))
       generalize wrTo g x.toNat i=wi at *
       cases hsb : satV g x.toNat i with
       | true =>
         rw [hsb] at c3
         rw [if_pos hsb] at hsu
         refine Ok.go ?_
         simp (disch:=first | omega | decide +kernel) only [go_sem,Qa,Qb,Qc,Qd,Qe,↓reduceIte,reduceCtorEq,Qf,Qg,Qh]
         (repeat' (first | ((first | (refine xa0 ?_ ?_<;>intro q'<;>(have h':=q')<;>(try simp only [zz] at h')<;>try (exfalso; omega)) | (have q':=trivial; first | refine xa3 (c3) rfl (by decide) ?_ | refine xa4 (c3) rfl ?_ | refine hE _ _ xa5 ?_ | refine hE _ _ xa2 ?_))<;>(try simp (disch:=first | omega | decide +kernel) only [q',go_sem,Qa,Qb,Qc,Qd,Qe,↓reduceIte,reduceCtorEq,Qf,Qg,Qh])<;>clear q') | (with_reducible first | refine And.intro ?_ ?_ | omega) | exact xa6 | (refine xa1 ?_; omega) | (refine za9 ⟨?_,?_⟩) | (simp only [go_sem,Qc,Qb,zb1,zb2,forall_eq]; done)))
         rw [his]
         refine hN () _ hlt trivial ?_
         rw [hsu]
         exact (by refine Wk.auto ?_ ?_<;>simp [xb1,lk,killL,St.kill,xb4,xb6,AV.has,AV.hasL,AO.wipe,List.map_set,xc2,insL,xc4,ins,])
       | false =>
         rw [hsb] at c3
         rw [if_neg (by rw [hsb]; simp)] at hsu
         refine Ok.go ?_
         simp (disch:=first | omega | decide +kernel) only [go_sem,Qa,Qb,Qc,Qd,Qe,↓reduceIte,reduceCtorEq,Qf,Qg,Qh]
         (repeat' (first | ((first | (refine xa0 ?_ ?_<;>intro q'<;>(have h':=q')<;>(try simp only [zz] at h')<;>try (exfalso; omega)) | (have q':=trivial; first | refine xa3 (c3) rfl (by decide) ?_ | refine xa4 (c3) rfl ?_ | refine hE _ _ xa5 ?_ | refine hE _ _ xa2 ?_))<;>(try simp (disch:=first | omega | decide +kernel) only [q',go_sem,Qa,Qb,Qc,Qd,Qe,↓reduceIte,reduceCtorEq,Qf,Qg,Qh])<;>clear q') | (with_reducible first | refine And.intro ?_ ?_ | omega) | exact xa6 | (refine xa1 ?_; omega) | (refine za9 ⟨?_,?_⟩) | (simp only [go_sem,Qc,Qb,zb1,zb2,forall_eq]; done)))
         rw [his]
         refine hN () _ hlt trivial ?_
         rw [hsu]
         exact (by refine Wk.auto ?_ ?_<;>simp [xb1,lk,killL,St.kill,xb4,xb6,AV.has,AV.hasL,AO.wipe,List.map_set,xc2,insL,xc4,ins,List.map_append,List.map_cons,List.map_nil])
     . obtain rfl : i=g.ch.length:=by omega
       refine Ok.go ?_
       simp (disch:=first | omega | decide +kernel) only [go_sem,Qa,Qb,Qc,Qd,Qe,↓reduceIte,reduceCtorEq,Qf,Qg,Qh]
       (repeat' (first | ((first | (refine xa0 ?_ ?_<;>intro q'<;>(have h':=q')<;>(try simp only [zz] at h')<;>try (exfalso; omega)) | (have q':=trivial; first | refine hE _ _ xa5 ?_ | refine hE _ _ xa2 ?_))<;>(try simp (disch:=first | omega | decide +kernel) only [q',go_sem,Qa,Qb,Qc,Qd,Qe,↓reduceIte,reduceCtorEq,Qf,Qg,Qh])<;>clear q') | (with_reducible first | refine And.intro ?_ ?_ | omega) | exact xa6 | (refine xa1 ?_; omega) | (refine za9 ⟨?_,?_⟩) | (simp only [go_sem,Qc,Qb,zb1,zb2,forall_eq]; done)))
       refine hE1 _ _ xa2 ?_
       simp (disch:=first | omega | decide +kernel) only [go_sem,Qa,Qb,Qc,Qd,Qe,↓reduceIte,reduceCtorEq,Qf,Qg,Qh]
       refine Ok.go ?_
       simp (disch:=first | omega | decide +kernel) only [go_sem,Qa,Qb,Qc,Qd,Qe,↓reduceIte,reduceCtorEq,Qf,Qg,Qh]
       (repeat' (first | ((first | (refine xa0 ?_ ?_<;>intro q'<;>(have h':=q')<;>(try simp only [zz] at h')<;>try (exfalso; omega)) | (have q':=trivial; first | refine hE _ _ xa5 ?_ | refine hE _ _ xa2 ?_))<;>(try simp (disch:=first | omega | decide +kernel) only [q',go_sem,Qa,Qb,Qc,Qd,Qe,↓reduceIte,reduceCtorEq,Qf,Qg,Qh])<;>clear q') | (with_reducible first | refine And.intro ?_ ?_ | omega) | exact xa6 | (refine xa1 ?_; omega) | (refine za9 ⟨?_,?_⟩) | (simp only [go_sem,Qc,Qb,zb1,zb2,forall_eq]; done)))
       all_goals (first | exact xs3 [8] rfl rfl)
end Abs.Y

namespace Abs.Y
open Go Go.Proofs Abs
open Nat renaming reduceEqDiff -> Qa, reduceLT -> Qb, reduceAdd -> Qc, reduceMul -> Qd, reduceSub -> Qe, reduceLeDiff -> Qf, reduceSubDiff -> Qg, reduceBEq -> Qh
open Bool renaming not_eq_true' -> Ba, not_eq_false' -> Bb, and_eq_true -> Bc, or_eq_true -> Bh, or_eq_false_iff -> Be
open Int renaming ofNat_lt -> Ia, ofNat_le -> Ib, not_lt -> Ic, not_le -> Ie
open Decidable renaming not_not -> Da
set_option maxRecDepth 100000

def ctI (cs : List (List Int)) (i : Nat) : Nat:=((List.range i).filter (tmod cs)).length
end Abs.Y

namespace Abs.Y
open Go Go.Proofs Abs
open Nat renaming reduceEqDiff -> Qa, reduceLT -> Qb, reduceAdd -> Qc, reduceMul -> Qd, reduceSub -> Qe, reduceLeDiff -> Qf, reduceSubDiff -> Qg, reduceBEq -> Qh
open Bool renaming not_eq_true' -> Ba, not_eq_false' -> Bb, and_eq_true -> Bc, or_eq_true -> Bh, or_eq_false_iff -> Be
open Int renaming ofNat_lt -> Ia, ofNat_le -> Ib, not_lt -> Ic, not_le -> Ie
open Decidable renaming not_not -> Da
set_option maxRecDepth 100000

theorem okE {y : D} {l : List (Int × Int)} (h : y ∈ l.map D.ed) : D.ok 2 y:=by
 obtain ⟨e,_,rfl⟩:=List.mem_map.1 h
 exact ⟨rfl,fun x hx => by simp [D.ed,D.cells] at hx; rcases hx with rfl | rfl<;>rfl⟩
def flS (ch : List Int) (e : Int × Int) : Nat->List Int
 | 0 => ch
 | 1 => ch.set e.1.toNat (1 - ch.getD e.1.toNat 0)
 | _ => zy3 ch e
end Abs.Y

namespace Abs.Y
open Go Go.Proofs Abs
open Nat renaming reduceEqDiff -> Qa, reduceLT -> Qb, reduceAdd -> Qc, reduceMul -> Qd, reduceSub -> Qe, reduceLeDiff -> Qf, reduceSubDiff -> Qg, reduceBEq -> Qh
open Bool renaming not_eq_true' -> Ba, not_eq_false' -> Bb, and_eq_true -> Bc, or_eq_true -> Bh, or_eq_false_iff -> Be
open Int renaming ofNat_lt -> Ia, ofNat_le -> Ib, not_lt -> Ic, not_le -> Ie
open Decidable renaming not_not -> Da
set_option maxRecDepth 100000

def inE (g : Chg) (k : Int) : Bool:=decide (0<=k) && decide (k<=(g.ed.length : Int) - 1)
def edB (g : Chg) (k : Int) : Bool:=xc7 g && inE g k
def zC : Chg:=⟨0,[],[]⟩
def mvG (g : Chg) (k : Int) : Chg:=if edB g k then flipG g k.toNat else zC
end Abs.Y

namespace Abs.Y
open Go Go.Proofs Abs
open Nat renaming reduceEqDiff -> Qa, reduceLT -> Qb, reduceAdd -> Qc, reduceMul -> Qd, reduceSub -> Qe, reduceLeDiff -> Qf, reduceSubDiff -> Qg, reduceBEq -> Qh
open Bool renaming not_eq_true' -> Ba, not_eq_false' -> Bb, and_eq_true -> Bc, or_eq_true -> Bh, or_eq_false_iff -> Be
open Int renaming ofNat_lt -> Ia, ofNat_le -> Ib, not_lt -> Ic, not_le -> Ie
open Decidable renaming not_not -> Da
set_option maxRecDepth 100000

end Abs.Y

namespace Abs.Y
open Go Go.Proofs Abs
open Nat renaming reduceEqDiff -> Qa, reduceLT -> Qb, reduceAdd -> Qc, reduceMul -> Qd, reduceSub -> Qe, reduceLeDiff -> Qf, reduceSubDiff -> Qg, reduceBEq -> Qh
open Bool renaming not_eq_true' -> Ba, not_eq_false' -> Bb, and_eq_true -> Bc, or_eq_true -> Bh, or_eq_false_iff -> Be
open Int renaming ofNat_lt -> Ia, ofNat_le -> Ib, not_lt -> Ic, not_le -> Ie
open Decidable renaming not_not -> Da
set_option maxRecDepth 100000

def rmG (g : Chg) (k b : Int) : Chg:=if edB g k && (decide (0<=b) && decide (b<=1)) then remG g k.toNat b else zC
end Abs.Y

namespace Go.Proofs
open Go.RowKit Go.Lib Go.Sort Go.Shelf
end Go.Proofs

namespace Go.Proofs
open Go.RowKit Go.Lib Go.Sort Go.Shelf
end Go.Proofs
