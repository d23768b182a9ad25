/- What functions of this program compute, over plain data. No condition. -/
import Derived.Test.YtkccabajcdphkaaDoorG4
import Derived.Test.YtkccabajcdphkaaDoorAbsRow
set_option linter.all false
open Nat renaming reduceEqDiff -> Qa, reduceLT -> Qb, reduceAdd -> Qc, reduceMul -> Qd, reduceSub -> Qe, reduceLeDiff -> Qf, reduceSubDiff -> Qg, reduceBEq -> Qh
open Bool renaming not_eq_true' -> Ba, not_eq_false' -> Bb, and_eq_true -> Bc, or_eq_true -> Bh, or_eq_false_iff -> Be
open Int renaming ofNat_lt -> Ia, ofNat_le -> Ib, not_lt -> Ic, not_le -> Ie
open Decidable renaming not_not -> Da
namespace Abs.Y
open Go Go.Proofs Abs
set_option maxRecDepth 100000

@[reducible] def D.ring (p : Int) (u : Nat) : D:=.agg [.int .i64 p,.int .i64 u]
theorem pow_le6 {u : Nat} (h : u<=6) : 2 ^ u<=64:=by
 have : 2 ^ u<=2 ^ 6:=Nat.pow_le_pow_right (by decide) h
 omega
theorem or_lt_pow {a b u : Nat} (ha : a < 2 ^ u) (hb : b < 2 ^ u) : a ||| b < 2 ^ u:=Nat.or_lt_two_pow ha hb
section
variable {p : Int} {u : Nat} (hp : 1 < p∧p<=5) (hu : u<=6)
include hp hu
theorem zero_ok : Ctr Tryd.prog 72 [D.ring p u] false (.sl 0) [(0,.arr 3 1 ((List.replicate (2 ^ u) (0 : Int)).map (.int .i64)))]:=by
 have h2:=pow_le6 hu
 have e : IntKind.wrap .i64 (1 * 2 ^ min u 64)=((2 ^ u : Nat) : Int):=shl_one (by omega)
 have er : List.replicate (2 ^ u) (D.int .i64 0)=(List.replicate (2 ^ u) (0 : Int)).map (D.int .i64):=by simp
 refine Ctr.of (n:=7) (rs:=[.tmp 2]) Tryd.func72 rfl rfl Tryd.ntmps72 rfl rfl (by kernel_rfl) Tryd.checked.mixed ?_
 simp (disch:=first | omega | decide +kernel) only [e,go_sem,Qa,Qb,Qc,Qd,Qe,↓reduceIte,reduceCtorEq,Qf,Qg,Qh]
 (repeat' (first | ((first | (refine gsel_split (fun q' => ?_) (fun q' => ?_)<;>(have h':=q')<;>(try simp only [za1,za2,Ba,Bb,za3,ne_eq,za4,za5,za6,Ia,Ib,Ic,Ie,Da,Bc,Bh,Be,za7,za8] at h')<;>try (exfalso; omega)) | (have q':=trivial; first | refine hE _ _ ret_ne ?_ | refine hE _ _ exit_ne ?_))<;>(try simp (disch:=first | omega | decide +kernel) only [q',e,go_sem,Qa,Qb,Qc,Qd,Qe,↓reduceIte,reduceCtorEq,Qf,Qg,Qh])<;>clear q') | refine hN _ ?_ ?_ Wk.kk | with_reducible refine And.intro ?_ ?_ | with_reducible omega | exact ok_ints | exact cells_ints | exact no_mem | with_reducible exact plain_ints | (refine le_maxLen ?_; omega) | (refine za9 ⟨?_,?_⟩) | (simp only [go_sem,Qc,Qb,zb1,zb2,forall_eq]; done)))
 generalize 2 ^ u=n at *
 all_goals (first | omega | (rw [er]; exact ret_sl 6 rfl rfl plain_ints))
set_option maxHeartbeats 4000000 in
theorem times_ok {a b : List Int} (ha : Vec p (2 ^ u) a) (hb : Vec p (2 ^ u) b) :
 Ctr Tryd.prog 59 [D.ring p u,.ints a,.ints b] false (.sl 0) [(0,.arr 3 1 ((mulD p (2 ^ u) a b).map (.int .i64)))]:=by
 have h2:=pow_le6 hu
 have hal:=ha.1
 have hbl:=hb.1
 have c1:=zero_ok hp hu
 refine Ctr.of (n:=49) (rs:=[.tmp 6]) Tryd.func59 rfl rfl Tryd.ntmps59 rfl rfl (by kernel_rfl) Tryd.checked.mixed ?_
 simp (disch:=first | omega | decide +kernel) only [D.ints,go_sem,Qa,Qb,Qc,Qd,Qe,↓reduceIte,reduceCtorEq,Qf,Qg,Qh]
 (repeat' (first | ((first | (refine gsel_split (fun q' => ?_) (fun q' => ?_)<;>(have h':=q')<;>(try simp only [za1,za2,Ba,Bb,za3,ne_eq,za4,za5,za6,Ia,Ib,Ic,Ie,Da,Bc,Bh,Be,za7,za8] at h')<;>try (exfalso; omega)) | (have q':=trivial; first | refine callX_new (c1) rfl (by decide) ?_ | refine callY_new (c1) rfl ?_ | refine hE _ _ ret_ne ?_ | refine hE _ _ exit_ne ?_))<;>(try simp (disch:=first | omega | decide +kernel) only [q',D.ints,go_sem,Qa,Qb,Qc,Qd,Qe,↓reduceIte,reduceCtorEq,Qf,Qg,Qh])<;>clear q') | refine hN _ ?_ ?_ Wk.kk | with_reducible refine And.intro ?_ ?_ | with_reducible omega | exact ok_ints | exact cells_ints | exact no_mem | with_reducible exact plain_ints | (refine le_maxLen ?_; omega) | (refine za9 ⟨?_,?_⟩) | (simp only [go_sem,Qc,Qb,zb1,zb2,forall_eq]; done)))
 refine Ok.loopN [47,46,45,44,43,42,41,40,39,38,37,36,35,34,33,32,31,30,29,28,27,26,25,24,23,22,21,20,19,18,17,16,13,12,11,10,9,8,5,4,1,0] (fun i _ => [(16,.d (.int .i64 (i : Nat)))]) (fun _ (v : List Int) => [(1400000,.arr 3 1 (List.map (D.int .i64) v))]) a.length
  (fun i v => v=(List.range i).foldl (fun v m => rowD p b m (a.getD m 0) v) (List.replicate (2 ^ u) 0)) (List.replicate (2 ^ u) 0) rfl (Wk.kk) ?_
 rintro R i v hN0 hE0 hi hv
 have hvv : Vec p (2 ^ u) v:=by rw [hv]; exact fold_vec (fun v m h => h.rowD (by omega) b m _) _ (Vec.zero (by omega) _)
 by_cases hlt : i < a.length
 . have hsucc : (List.range (i + 1)).foldl (fun v m => rowD p b m (a.getD m 0) v) (List.replicate (2 ^ u) 0)=rowD p b i (a.getD i 0) v:=by
    rw [List.range_succ,List.foldl_append,← hv]; rfl
   have hai:=ha.2 i
   clear hv
   simp (disch:=first | omega | decide +kernel) only [go_sem,Qa,Qb,Qc,Qd,Qe,↓reduceIte,reduceCtorEq,Qf,Qg,Qh]
   (repeat' (first | ((first | (refine gsel_split (fun q' => ?_) (fun q' => ?_)<;>(have h':=q')<;>(try simp only [za1,za2,Ba,Bb,za3,ne_eq,za4,za5,za6,Ia,Ib,Ic,Ie,Da,Bc,Bh,Be,za7,za8] at h')<;>try (exfalso; omega)) | (have q':=trivial; first | refine hE _ _ ret_ne ?_ | refine hE _ _ exit_ne ?_))<;>(try simp (disch:=first | omega | decide +kernel) only [q',go_sem,Qa,Qb,Qc,Qd,Qe,↓reduceIte,reduceCtorEq,Qf,Qg,Qh])<;>clear q') | refine hN _ ?_ ?_ Wk.kk | with_reducible refine And.intro ?_ ?_ | with_reducible omega | exact ok_ints | exact cells_ints | exact no_mem | with_reducible exact plain_ints | (refine le_maxLen ?_; omega) | (refine za9 ⟨?_,?_⟩) | (simp only [go_sem,Qc,Qb,zb1,zb2,forall_eq]; done)))
   refine Ok.loopN [46,45,44,43,42,41,40,39,38,37,36,35,34,33,32,31,30,29,28,27,26,25,24,23,13,12,11,10,5,4,1,0] (fun j _ => [(23,.d (.int .i64 (j : Nat)))]) (fun _ (w : List Int) => [(1400000,.arr 3 1 (List.map (D.int .i64) w))]) b.length
    (fun j w => w=(List.range j).foldl (fun v n => stP p v (i ||| n) (a.getD i 0 * b.getD n 0)) v) v rfl (Wk.kk) ?_
   rintro R2 j w hN hE hj hw
   have hwv : Vec p (2 ^ u) w:=by rw [hw]; exact fold_vec (fun v t h => h.st (by omega) _ _) _ hvv
   by_cases hjt : j < b.length
   . have hs2 : (List.range (j + 1)).foldl (fun v n => stP p v (i ||| n) (a.getD i 0 * b.getD n 0)) v=w.set (i ||| j) ((w.getD (i ||| j) 0 + a.getD i 0 * b.getD j 0) % p):=by
      rw [List.range_succ,List.foldl_append,← hw]; rfl
     have hor:=or_lt_pow (a:=i) (b:=j) (u:=u) (by omega) (by omega)
     have eo:=bitV_or (a:=i) (b:=j) (by omega) (by omega)
     have hbj:=hb.2 j
     have hwk:=hwv.2 (i ||| j)
     have hwl:=hwv.1
     clear hw
     generalize i ||| j=k at *
     have hcd : 0<=a.getD i 0 * b.getD j 0∧a.getD i 0 * b.getD j 0<=25:=⟨Int.mul_nonneg hai.1 hbj.1,Int.le_trans (Int.mul_le_mul (show a.getD i 0<=5 by omega) (show b.getD j 0<=5 by omega) hbj.1 (by decide)) (by decide)⟩
     have em : (w.getD k 0 + a.getD i 0 * b.getD j 0).tmod p=(w.getD k 0 + a.getD i 0 * b.getD j 0) % p:=Int.tmod_eq_emod_of_nonneg (by omega)
     have hp0 : ¬ p=0:=by omega
     simp (disch:=first | omega | decide +kernel) only [eo,em,go_sem,Qa,Qb,Qc,Qd,Qe,↓reduceIte,reduceCtorEq,Qf,Qg,Qh]
     (repeat' (first | ((first | (refine gsel_split (fun q' => ?_) (fun q' => ?_)<;>(have h':=q')<;>(try simp only [za1,za2,Ba,Bb,za3,ne_eq,za4,za5,za6,Ia,Ib,Ic,Ie,Da,Bc,Bh,Be,za7,za8] at h')<;>try (exfalso; omega)) | (have q':=trivial; first | refine hE _ _ ret_ne ?_ | refine hE _ _ exit_ne ?_))<;>(try simp (disch:=first | omega | decide +kernel) only [q',eo,em,go_sem,Qa,Qb,Qc,Qd,Qe,↓reduceIte,reduceCtorEq,Qf,Qg,Qh])<;>clear q') | refine hN _ ?_ ?_ Wk.kk | with_reducible refine And.intro ?_ ?_ | with_reducible omega | exact ok_ints | exact cells_ints | exact no_mem | with_reducible exact plain_ints | (refine le_maxLen ?_; omega) | (refine za9 ⟨?_,?_⟩) | (simp only [go_sem,Qc,Qb,zb1,zb2,forall_eq]; done)))
     all_goals (first | omega | (refine hN (w.set k ((w.getD k 0 + a.getD i 0 * b.getD j 0) % p)) _ hjt hs2.symm (by refine Wk.auto ?_ ?_<;>simp [extraK,lk,killL,St.kill,wipeO,wipeS,AV.has,AV.hasL,AO.wipe,List.map_set,updSt,insL,dropS,ins,]); done))
   . obtain rfl : j=b.length:=by omega
     simp (disch:=first | omega | decide +kernel) only [go_sem,Qa,Qb,Qc,Qd,Qe,↓reduceIte,reduceCtorEq,Qf,Qg,Qh]
     (repeat' (first | ((first | (refine gsel_split (fun q' => ?_) (fun q' => ?_)<;>(have h':=q')<;>(try simp only [za1,za2,Ba,Bb,za3,ne_eq,za4,za5,za6,Ia,Ib,Ic,Ie,Da,Bc,Bh,Be,za7,za8] at h')<;>try (exfalso; omega)) | (have q':=trivial; first | refine hE _ _ ret_ne ?_ | refine hE _ _ exit_ne ?_))<;>(try simp (disch:=first | omega | decide +kernel) only [q',go_sem,Qa,Qb,Qc,Qd,Qe,↓reduceIte,reduceCtorEq,Qf,Qg,Qh])<;>clear q') | refine hN _ ?_ ?_ Wk.kk | with_reducible refine And.intro ?_ ?_ | with_reducible omega | exact ok_ints | exact cells_ints | exact no_mem | with_reducible exact plain_ints | (refine le_maxLen ?_; omega) | (refine za9 ⟨?_,?_⟩) | (simp only [go_sem,Qc,Qb,zb1,zb2,forall_eq]; done)))
     all_goals (first | omega | (refine hN0 w _ hlt (by rw [hw]; exact hsucc.symm) (by refine Wk.auto ?_ ?_<;>simp [extraK,lk,killL,St.kill,wipeO,wipeS,AV.has,AV.hasL,AO.wipe,List.map_set,updSt,insL,dropS,ins,]); done))
 . obtain rfl : i=a.length:=by omega
   have hE:=hE0
   have hv2 : v=mulD p (2 ^ u) a b:=hv
   simp (disch:=first | omega | decide +kernel) only [go_sem,Qa,Qb,Qc,Qd,Qe,↓reduceIte,reduceCtorEq,Qf,Qg,Qh]
   (repeat' (first | ((first | (refine gsel_split (fun q' => ?_) (fun q' => ?_)<;>(have h':=q')<;>(try simp only [za1,za2,Ba,Bb,za3,ne_eq,za4,za5,za6,Ia,Ib,Ic,Ie,Da,Bc,Bh,Be,za7,za8] at h')<;>try (exfalso; omega)) | (have q':=trivial; first | refine hE _ _ ret_ne ?_ | refine hE _ _ exit_ne ?_))<;>(try simp (disch:=first | omega | decide +kernel) only [q',go_sem,Qa,Qb,Qc,Qd,Qe,↓reduceIte,reduceCtorEq,Qf,Qg,Qh])<;>clear q') | refine hN _ ?_ ?_ Wk.kk | with_reducible refine And.intro ?_ ?_ | with_reducible omega | exact ok_ints | exact cells_ints | exact no_mem | with_reducible exact plain_ints | (refine le_maxLen ?_; omega) | (refine za9 ⟨?_,?_⟩) | (simp only [go_sem,Qc,Qb,zb1,zb2,forall_eq]; done)))
   all_goals (first | omega | (rw [← hv2]; exact ret_sl 1400000 rfl rfl plain_ints))
theorem cloneD_ok {a : List Int} (hl : a.length<=4294967296) : Ctr Tryd.prog 131 [.ints a] false (.sl 0) [(0,.arr 3 1 (a.map (.int .i64)))]:=by
 refine Ctr.of (n:=8) (rs:=[.tmp 2]) Tryd.func131 rfl rfl Tryd.ntmps131 rfl rfl (by kernel_rfl) Tryd.checked.mixed ?_
 simp (disch:=first | omega | decide +kernel) only [D.ints,go_sem,Qa,Qb,Qc,Qd,Qe,↓reduceIte,reduceCtorEq,Qf,Qg,Qh]
 intro b hb
 cases b with
 | true =>
   obtain rfl : a=[]:=by cases a with | nil => rfl | cons x r => simp at hb
   simp (disch:=first | omega | decide +kernel) only [go_sem,Qa,Qb,Qc,Qd,Qe,↓reduceIte,reduceCtorEq,Qf,Qg,Qh]
   (repeat' (first | ((first | (refine gsel_split (fun q' => ?_) (fun q' => ?_)<;>(have h':=q')<;>(try simp only [za1,za2,Ba,Bb,za3,ne_eq,za4,za5,za6,Ia,Ib,Ic,Ie,Da,Bc,Bh,Be,za7,za8] at h')) | (have q':=trivial; first | refine hE _ _ ret_ne ?_ | refine hE _ _ exit_ne ?_))<;>(try simp (disch:=first | omega | decide +kernel) only [q',go_sem,Qa,Qb,Qc,Qd,Qe,↓reduceIte,reduceCtorEq,Qf,Qg,Qh])<;>clear q') | refine hN _ ?_ ?_ Wk.kk | with_reducible refine And.intro ?_ ?_ | with_reducible omega | exact ok_ints | exact cells_ints | exact no_mem | with_reducible exact plain_ints | (refine le_maxLen ?_; omega) | (refine za9 ⟨?_,?_⟩) | (simp only [go_sem,Qc,Qb,zb1,zb2,forall_eq]; done)))
   exact ret_sl 2 rfl rfl no_mem
 | false =>
   simp (disch:=first | omega | decide +kernel) only [go_sem,Qa,Qb,Qc,Qd,Qe,↓reduceIte,reduceCtorEq,Qf,Qg,Qh]
   (repeat' (first | ((first | (refine gsel_split (fun q' => ?_) (fun q' => ?_)<;>(have h':=q')<;>(try simp only [za1,za2,Ba,Bb,za3,ne_eq,za4,za5,za6,Ia,Ib,Ic,Ie,Da,Bc,Bh,Be,za7,za8] at h')) | (have q':=trivial; first | refine hE _ _ ret_ne ?_ | refine hE _ _ exit_ne ?_))<;>(try simp (disch:=first | omega | decide +kernel) only [q',go_sem,Qa,Qb,Qc,Qd,Qe,↓reduceIte,reduceCtorEq,Qf,Qg,Qh])<;>clear q') | refine hN _ ?_ ?_ Wk.kk | with_reducible refine And.intro ?_ ?_ | with_reducible omega | exact ok_ints | exact cells_ints | exact no_mem | with_reducible exact plain_ints | (refine le_maxLen ?_; omega) | (refine za9 ⟨?_,?_⟩) | (simp only [go_sem,Qc,Qb,zb1,zb2,forall_eq]; done)))
   exact ret_sl 5 rfl rfl plain_ints
set_option maxHeartbeats 4000000 in
theorem plus_ok {a b : List Int} {k : Int} (ha : Vec p (2 ^ u) a) (hb : Vec p (2 ^ u) b) (hk : 0<=k∧k<=5) :
 Ctr Tryd.prog 63 [D.ring p u,.ints a,.ints b,.int .i64 k] false (.sl 0) [(0,.arr 3 1 ((addD p k a b).map (.int .i64)))]:=by
 have h2:=pow_le6 hu
 have hal:=ha.1
 have hbl:=hb.1
 have c1:=cloneD_ok hp hu (a:=a) (by omega)
 refine Ctr.of (n:=37) (rs:=[.tmp 8]) Tryd.func63 rfl rfl Tryd.ntmps63 rfl rfl (by kernel_rfl) Tryd.checked.mixed ?_
 simp (disch:=first | omega | decide +kernel) only [D.ints,go_sem,Qa,Qb,Qc,Qd,Qe,↓reduceIte,reduceCtorEq,Qf,Qg,Qh]
 (repeat' (first | ((first | (refine gsel_split (fun q' => ?_) (fun q' => ?_)<;>(have h':=q')<;>(try simp only [za1,za2,Ba,Bb,za3,ne_eq,za4,za5,za6,Ia,Ib,Ic,Ie,Da,Bc,Bh,Be,za7,za8] at h')<;>try (exfalso; omega)) | (have q':=trivial; first | refine callX_new (c1) rfl (by decide) ?_ | refine callY_new (c1) rfl ?_ | refine hE _ _ ret_ne ?_ | refine hE _ _ exit_ne ?_))<;>(try simp (disch:=first | omega | decide +kernel) only [q',D.ints,go_sem,Qa,Qb,Qc,Qd,Qe,↓reduceIte,reduceCtorEq,Qf,Qg,Qh])<;>clear q') | refine hN _ ?_ ?_ Wk.kk | with_reducible refine And.intro ?_ ?_ | with_reducible omega | exact ok_ints | exact cells_ints | exact no_mem | with_reducible exact plain_ints | (refine le_maxLen ?_; omega) | (refine za9 ⟨?_,?_⟩) | (simp only [go_sem,Qc,Qb,zb1,zb2,forall_eq]; done)))
 refine Ok.loopN [35,34,33,32,31,30,29,28,27,26,25,24,23,22,21,20,19,18,17,16,13,12,11,10,7,6,5,2,1,0] (fun i _ => [(16,.d (.int .i64 (i : Nat)))]) (fun _ (v : List Int) => [(1400000,.arr 3 1 (List.map (D.int .i64) v))]) b.length
  (fun i v => v.length=a.length∧∀ j,v.getD j 0=if j < i then (a.getD j 0 + k * b.getD j 0) % p else a.getD j 0) a ⟨rfl,by simp⟩ (Wk.kk) ?_
 rintro R i v hN hE hi ⟨hvl,hv⟩
 by_cases hlt : i < b.length
 . have hvi:=hv i
   rw [if_neg (by omega)] at hvi
   have hai:=ha.2 i
   have hbi:=hb.2 i
   have hkb : 0<=k * b.getD i 0∧k * b.getD i 0<=25:=⟨Int.mul_nonneg hk.1 hbi.1,Int.le_trans (Int.mul_le_mul hk.2 (show b.getD i 0<=5 by omega) hbi.1 (by decide)) (by decide)⟩
   have em : (a.getD i 0 + k * b.getD i 0).tmod p=(a.getD i 0 + k * b.getD i 0) % p:=Int.tmod_eq_emod_of_nonneg (by omega)
   have hp0 : ¬ p=0:=by omega
   have hset : ∀ j,(v.set i ((a.getD i 0 + k * b.getD i 0) % p)).getD j 0=if j < i + 1 then (a.getD j 0 + k * b.getD j 0) % p else a.getD j 0:=fun j => by
    rw [getD_set]
    by_cases e : i=j
    . subst e; rw [if_pos ⟨rfl,by omega⟩,if_pos (by omega)]
    . rw [if_neg (fun h => e h.1),hv j]
      by_cases e2 : j < i
      . rw [if_pos e2,if_pos (by omega)]
      . rw [if_neg e2,if_neg (by omega)]
   clear hv
   simp (disch:=first | omega | decide +kernel) only [hvi,em,go_sem,Qa,Qb,Qc,Qd,Qe,↓reduceIte,reduceCtorEq,Qf,Qg,Qh]
   (repeat' (first | ((first | (refine gsel_split (fun q' => ?_) (fun q' => ?_)<;>(have h':=q')<;>(try simp only [za1,za2,Ba,Bb,za3,ne_eq,za4,za5,za6,Ia,Ib,Ic,Ie,Da,Bc,Bh,Be,za7,za8] at h')<;>try (exfalso; omega)) | (have q':=trivial; first | refine hE _ _ ret_ne ?_ | refine hE _ _ exit_ne ?_))<;>(try simp (disch:=first | omega | decide +kernel) only [q',hvi,em,go_sem,Qa,Qb,Qc,Qd,Qe,↓reduceIte,reduceCtorEq,Qf,Qg,Qh])<;>clear q') | refine hN _ ?_ ?_ Wk.kk | with_reducible refine And.intro ?_ ?_ | with_reducible omega | exact ok_ints | exact cells_ints | exact no_mem | with_reducible exact plain_ints | (refine le_maxLen ?_; omega) | (refine za9 ⟨?_,?_⟩) | (simp only [go_sem,Qc,Qb,zb1,zb2,forall_eq]; done)))
   all_goals (first | omega | (refine hN (v.set i ((a.getD i 0 + k * b.getD i 0) % p)) _ hlt ⟨by simp [hvl],hset⟩ (by refine Wk.auto ?_ ?_<;>simp [extraK,lk,killL,St.kill,wipeO,wipeS,AV.has,AV.hasL,AO.wipe,List.map_set,updSt,insL,dropS,ins,]); done))
 . obtain rfl : i=b.length:=by omega
   have hv2 : v=addD p k a b:=by
    refine ext_getDz 0 (by simp [addD]; omega) fun j hj => ?_
    rw [hv j,if_pos (by omega),addD,getD_zip _ _ _ (by omega) j (by omega)]
   simp (disch:=first | omega | decide +kernel) only [go_sem,Qa,Qb,Qc,Qd,Qe,↓reduceIte,reduceCtorEq,Qf,Qg,Qh]
   (repeat' (first | ((first | (refine gsel_split (fun q' => ?_) (fun q' => ?_)<;>(have h':=q')<;>(try simp only [za1,za2,Ba,Bb,za3,ne_eq,za4,za5,za6,Ia,Ib,Ic,Ie,Da,Bc,Bh,Be,za7,za8] at h')<;>try (exfalso; omega)) | (have q':=trivial; first | refine hE _ _ ret_ne ?_ | refine hE _ _ exit_ne ?_))<;>(try simp (disch:=first | omega | decide +kernel) only [q',go_sem,Qa,Qb,Qc,Qd,Qe,↓reduceIte,reduceCtorEq,Qf,Qg,Qh])<;>clear q') | refine hN _ ?_ ?_ Wk.kk | with_reducible refine And.intro ?_ ?_ | with_reducible omega | exact ok_ints | exact cells_ints | exact no_mem | with_reducible exact plain_ints | (refine le_maxLen ?_; omega) | (refine za9 ⟨?_,?_⟩) | (simp only [go_sem,Qc,Qb,zb1,zb2,forall_eq]; done)))
   all_goals (first | omega | (rw [← hv2]; exact ret_sl 1400000 rfl rfl plain_ints))
def monoD (u m : Nat) : List Int:=(List.replicate (2 ^ u) 0).set m 1
omit hp hu in
theorem Vec.mono {p : Int} (hp : 1 < p) (u m : Nat) : Vec p (2 ^ u) (monoD u m):=by
 have h:=Vec.zero (p:=p) (by omega) (2 ^ u)
 refine ⟨by simp [monoD],fun i => ?_⟩
 rw [monoD,getD_set]
 split
 . omega
 . exact h.2 i
end
end Abs.Y

namespace Abs
open Go Go.RowKit

theorem Wk.data {N st j o es} (hj : lk j st.o=some o) (ho : rowOf o=some es) : Wk N st (st.frz j es):=fun _ β φ _ _ _ _ _ hs => ⟨β,φ,hs.frz' hj ho⟩

theorem Ctr.data1 {P : Program} {f : FuncId} {xs : List D} {sh : Bool} {e : TypeId} {k : Nat} {es : List D} (h : Ctr P f xs sh (.sl 0) [(0,.arr e k es)]) : Ctr P f xs true (.d (.slice es)) []:=by
 refine ⟨h.1,fun S w vs hl hr hG => (h.2 S w vs hl hr hG).mono fun en w' ⟨v,he,hf,β,φ,hrel,hobj,hown,hdis⟩ => ⟨v,he,hf,β,φ,.d ?_,by simp [lk],by simp [lk],by simp [lk]⟩⟩
 cases hrel
 exact rd_of_arr (hobj 0 (.arr e k es) (by simp [lk])) (fun g hg _ => ⟨hg.1.imp id fun h => ⟨rfl,h.2⟩,by simp [lk]⟩) fun g hg => ⟨.inl (hown 0 (.arr e k es) g (by simp [lk]) hg),by simp [lk]⟩
def cntI (k : Int) : Nat->List Int
 | 0 => []
 | n + 1 => k :: cntI (k + 1) n
end Abs
namespace Abs
end Abs
namespace Abs
def cntSS : List (List Int)->Int->List (List Int)
 | [],_ => []
 | x :: r,k => cntI k x.length :: cntSS r (k + x.length)
def lenSS : List (List Int)->Nat
 | [] => 0
 | x :: r => x.length + lenSS r
def offSS (a : List (List Int)) (k : Int) (i : Nat) : Int:=k + (lenSS (a.take i) : Nat)
def lenST : List Step->Nat
 | [] => 0
 | s :: r => s.c.length + 3 + lenST r
def cntST1 (s : Step) (k : Int) : Step:=⟨cntI k s.c.length,k + s.c.length,k + s.c.length + 1,k + s.c.length + 2⟩
def cntST : List Step->Int->List Step
 | [],_ => []
 | s :: r,k => cntST1 s k :: cntST r (k + s.c.length + 3)
def offST (a : List Step) (k : Int) (i : Nat) : Int:=k + (lenST (a.take i) : Nat)
end Abs
namespace Abs
end Abs
namespace Abs
end Abs
namespace Abs
end Abs
namespace Abs
open Go Go.RowKit
end Abs
