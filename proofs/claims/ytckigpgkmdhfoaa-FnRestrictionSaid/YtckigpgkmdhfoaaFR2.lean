/- What functions of this program compute, over plain data. No condition. -/
import Derived.Test.YtckigpgkmdhfoaaFR1
set_option linter.all false
namespace Abs.Y
open Go Go.Proofs Abs
open Nat renaming reduceEqDiff -> Qa, reduceLT -> Qb, reduceAdd -> Qc, reduceMul -> Qd, reduceSub -> Qe, reduceLeDiff -> Qf, reduceSubDiff -> Qg, reduceBEq -> Qh
open Bool renaming not_eq_true' -> Ba, not_eq_false' -> Bb, and_eq_true -> Bc, or_eq_true -> Bd, or_eq_false_iff -> Be
open Int renaming ofNat_lt -> Ia, ofNat_le -> Ib, not_lt -> Ic, not_le -> Ie
open Decidable renaming not_not -> Da
set_option maxRecDepth 100000

structure Sz3 (cs : List (List Int)) (a : List Int) : Prop where
 hl : cs.length<=1000
 hc : ∀ c ∈ cs,c.length<=100000
 ha : a.length<=100000
theorem lits3 {u : Int} {cs : List (List Int)} (hk : okCnf u cs=true) : ∀ c ∈ cs,∀ l ∈ c,-1000000<=l∧l<=1000000:=fun c hcc l hl => by
 have:=lit62_ok ((okCnf_all hk).2.2 c hcc) l hl
 unfold Lit62 at this; omega
set_option maxHeartbeats 4000000 in
theorem cnfValue_ok (cs : List (List Int)) (a : List Int) (z : Sz3 cs a) (hs : ∀ c ∈ cs,∀ l ∈ c,-1000000<=l∧l<=1000000) :
 Ctr Try.prog 52 [.slice (cs.map D.ints),.ints a] false (.d (.int .i64 (mvI cs a cs.length))) []:=by
 have h0 : mvI cs a 0=1:=rfl
 have zl:=z.hl
 refine Ctr.of (n:=21) (rs:=[.tmp 4]) Try.func52 rfl rfl Try.ntmps52 rfl rfl (by kernel_rfl) Try.checked.mixed ?_
 simp (disch:=first | omega | decide +kernel) only [D.ints,List.length_map,go_sem,Qa,Qb,Qc,Qd,Qe,↓reduceIte,reduceCtorEq,Qf,Qg,Qh]
 (repeat' (first | ((first | (refine gsel_split (fun q' => ?_) (fun q' => ?_)<;>(have h':=q')<;>(try simp only [za1,za2,Ba,Bb,za3,ne_eq,za4,za5,za6,Ia,Ib,Ic,Ie,Da,Bc,Bd,Be,za7,za8] at h')<;>try (exfalso; omega)) | (have q':=trivial; first | refine hE _ _ ret_ne ?_ | refine hE _ _ exit_ne ?_))<;>(try simp (disch:=first | omega | decide +kernel) only [q',D.ints,List.length_map,go_sem,Qa,Qb,Qc,Qd,Qe,↓reduceIte,reduceCtorEq,Qf,Qg,Qh])<;>clear q') | refine hN _ ?_ ?_ Wk.kk | with_reducible refine And.intro ?_ ?_ | with_reducible omega | exact ok_ints | exact cells_ints | exact no_mem | with_reducible exact plain_ints | (refine le_maxLen ?_; omega) | (refine za9 ⟨?_,?_⟩) | (simp only [go_sem,Qc,Qb,zb1,zb2,forall_eq]; done)))
 refine Ok.loopN [20,19,18,17,16,15,14,13,12,11,10,7,6,5,4,3,2,0] (fun i (_ : Unit) => [(10,.d (.int .i64 (i : Nat))),(5,.d (.int .i64 (mvI cs a i)))]) (fun _ _ => []) cs.length (fun _ _ => True) () trivial (by refine Wk.auto ?_ ?_<;>simp [extraK,lk,killL,St.kill,wipeO,wipeS,AV.has,AV.hasL,AO.wipe,List.map_set,updSt,insL,dropS,ins,h0]) ?_
 rintro R i _ hN hE hi _
 by_cases hlt : i < cs.length
 . have hei:=el_intss (xs:=cs) hlt
   have hm:=getD_mem (z:=([] : List Int)) hlt
   have c1:=clauseValue_ok (cs.getD i []) a (by have:=z.hc _ hm; omega) (by have:=z.ha; omega) (hs _ hm)
   have hb:=cvI_bd (cs.getD i []) a
   have hb2:=mvI_bd cs a i
   have hsu : mvI cs a (i + 1)=min (mvI cs a i) (cvI (cs.getD i []) a):=rfl
   simp only [D.ints] at c1
   generalize cvI (cs.getD i []) a=v at *
   generalize mvI cs a i=w at *
   generalize mvI cs a (i + 1)=w' at *
   have hmin : (if v < w then v else w)=min w v:=by split<;>omega
   simp (disch:=first | omega | decide +kernel) only [hei,D.ints,List.length_map,go_sem,Qa,Qb,Qc,Qd,Qe,↓reduceIte,reduceCtorEq,Qf,Qg,Qh]
   (repeat' (first | ((first | (refine gsel_split (fun q' => ?_) (fun q' => ?_)<;>(have h':=q')<;>(try simp only [za1,za2,Ba,Bb,za3,ne_eq,za4,za5,za6,Ia,Ib,Ic,Ie,Da,Bc,Bd,Be,za7,za8] at h')<;>try (exfalso; omega)) | (have q':=trivial; first | refine callX_new (c1) rfl (by decide) ?_ | refine callY_new (c1) rfl ?_ | refine hE _ _ ret_ne ?_ | refine hE _ _ exit_ne ?_))<;>(try simp (disch:=first | omega | decide +kernel) only [q',hei,D.ints,List.length_map,go_sem,Qa,Qb,Qc,Qd,Qe,↓reduceIte,reduceCtorEq,Qf,Qg,Qh])<;>clear q') | refine hN _ ?_ ?_ Wk.kk | with_reducible refine And.intro ?_ ?_ | with_reducible omega | exact ok_ints | exact cells_ints | exact no_mem | with_reducible exact plain_ints | (refine le_maxLen ?_; omega) | (refine za9 ⟨?_,?_⟩) | (simp only [go_sem,Qc,Qb,zb1,zb2,forall_eq]; done)))
   all_goals (first | (refine hN () _ hlt trivial ?_; rw [hsu]; exact (by refine Wk.auto ?_ ?_<;>simp [extraK,lk,killL,St.kill,wipeO,wipeS,AV.has,AV.hasL,AO.wipe,List.map_set,updSt,insL,dropS,ins,D.ints,hmin])))
 . obtain rfl : i=cs.length:=by omega
   simp (disch:=first | omega | decide +kernel) only [List.length_map,go_sem,Qa,Qb,Qc,Qd,Qe,↓reduceIte,reduceCtorEq,Qf,Qg,Qh]
   (repeat' (first | ((first | (refine gsel_split (fun q' => ?_) (fun q' => ?_)<;>(have h':=q')<;>(try simp only [za1,za2,Ba,Bb,za3,ne_eq,za4,za5,za6,Ia,Ib,Ic,Ie,Da,Bc,Bd,Be,za7,za8] at h')<;>try (exfalso; omega)) | (have q':=trivial; first | refine hE _ _ ret_ne ?_ | refine hE _ _ exit_ne ?_))<;>(try simp (disch:=first | omega | decide +kernel) only [q',List.length_map,go_sem,Qa,Qb,Qc,Qd,Qe,↓reduceIte,reduceCtorEq,Qf,Qg,Qh])<;>clear q') | refine hN _ ?_ ?_ Wk.kk | with_reducible refine And.intro ?_ ?_ | with_reducible omega | exact ok_ints | exact cells_ints | exact no_mem | with_reducible exact plain_ints | (refine le_maxLen ?_; omega) | (refine za9 ⟨?_,?_⟩) | (simp only [go_sem,Qc,Qb,zb1,zb2,forall_eq]; done)))
theorem l1Least_ok (a b : Int) : Ctr Try.prog 87 [.int .i64 a,.int .i64 b] false (.d (.int .i64 (min a b))) []:=by
 refine Ctr.of (n:=10) (rs:=[.tmp 4]) Try.func87 rfl rfl Try.ntmps87 rfl rfl (by kernel_rfl) Try.checked.mixed ?_
 simp (disch:=first | omega | decide +kernel) only [go_sem,Qa,Qb,Qc,Qd,Qe,↓reduceIte,reduceCtorEq,Qf,Qg,Qh]
 (repeat' (first | ((first | (refine gsel_split (fun q' => ?_) (fun q' => ?_)<;>(have h':=q')<;>(try simp only [za1,za2,Ba,Bb,za3,ne_eq,za4,za5,za6,Ia,Ib,Ic,Ie,Da,Bc,Bd,Be,za7,za8] at h')<;>try (exfalso; omega)) | (have q':=trivial; first | refine hE _ _ ret_ne ?_ | refine hE _ _ exit_ne ?_))<;>(try simp (disch:=first | omega | decide +kernel) only [q',go_sem,Qa,Qb,Qc,Qd,Qe,↓reduceIte,reduceCtorEq,Qf,Qg,Qh])<;>clear q') | refine hN _ ?_ ?_ Wk.kk | with_reducible refine And.intro ?_ ?_ | with_reducible omega | exact ok_ints | exact cells_ints | exact no_mem | with_reducible exact plain_ints | (refine le_maxLen ?_; omega) | (refine za9 ⟨?_,?_⟩) | (simp only [go_sem,Qc,Qb,zb1,zb2,forall_eq]; done)))
 all_goals (first | (congr 1; omega))
set_option maxHeartbeats 4000000 in
theorem l3CnfValue_ok (u : Int) (cs : List (List Int)) (a : List Int) (z : Sz3 cs a) (hs : ∀ c ∈ cs,∀ l ∈ c,-1000000<=l∧l<=1000000) :
 Ctr Try.prog 53 [.agg [.int .i64 u,.slice (cs.map D.ints)],.ints a] false (.d (.int .i64 (mvI cs a cs.length))) []:=by
 have h0 : mvI cs a 0=1:=rfl
 have zl:=z.hl
 refine Ctr.of (n:=24) (rs:=[.tmp 4]) Try.func53 rfl rfl Try.ntmps53 rfl rfl (by kernel_rfl) Try.checked.mixed ?_
 simp (disch:=first | omega | decide +kernel) only [D.ints,List.length_map,go_sem,Qa,Qb,Qc,Qd,Qe,↓reduceIte,reduceCtorEq,Qf,Qg,Qh]
 (repeat' (first | ((first | (refine gsel_split (fun q' => ?_) (fun q' => ?_)<;>(have h':=q')<;>(try simp only [za1,za2,Ba,Bb,za3,ne_eq,za4,za5,za6,Ia,Ib,Ic,Ie,Da,Bc,Bd,Be,za7,za8] at h')<;>try (exfalso; omega)) | (have q':=trivial; first | refine hE _ _ ret_ne ?_ | refine hE _ _ exit_ne ?_))<;>(try simp (disch:=first | omega | decide +kernel) only [q',D.ints,List.length_map,go_sem,Qa,Qb,Qc,Qd,Qe,↓reduceIte,reduceCtorEq,Qf,Qg,Qh])<;>clear q') | refine hN _ ?_ ?_ Wk.kk | with_reducible refine And.intro ?_ ?_ | with_reducible omega | exact ok_ints | exact cells_ints | exact no_mem | with_reducible exact plain_ints | (refine le_maxLen ?_; omega) | (refine za9 ⟨?_,?_⟩) | (simp only [go_sem,Qc,Qb,zb1,zb2,forall_eq]; done)))
 refine Ok.loopN [23,22,21,20,19,18,17,16,15,14,13,12,11,10,9,8,7,6,5,4,3,0] (fun i (_ : Unit) => [(6,.d (.int .i64 (i : Nat))),(5,.d (.int .i64 (mvI cs a i)))]) (fun _ _ => []) cs.length (fun _ _ => True) () trivial (by refine Wk.auto ?_ ?_<;>simp [extraK,lk,killL,St.kill,wipeO,wipeS,AV.has,AV.hasL,AO.wipe,List.map_set,updSt,insL,dropS,ins,h0]) ?_
 rintro R i _ hN hE hi _
 by_cases hlt : i < cs.length
 . have hei:=el_intss (xs:=cs) hlt
   have hm:=getD_mem (z:=([] : List Int)) hlt
   have c1:=l3Value_ok (cs.getD i []) a (by have:=z.hc _ hm; omega) (by have:=z.ha; omega) (hs _ hm)
   have c2:=l1Least_ok (mvI cs a i) (cvI (cs.getD i []) a)
   have hsu : mvI cs a (i + 1)=min (mvI cs a i) (cvI (cs.getD i []) a):=rfl
   simp only [D.ints] at c1
   generalize cvI (cs.getD i []) a=v at *
   generalize mvI cs a i=w at *
   rw [← hsu] at c2
   generalize mvI cs a (i + 1)=w' at *
   simp (disch:=first | omega | decide +kernel) only [hei,D.ints,List.length_map,go_sem,Qa,Qb,Qc,Qd,Qe,↓reduceIte,reduceCtorEq,Qf,Qg,Qh]
   (repeat' (first | ((first | (refine gsel_split (fun q' => ?_) (fun q' => ?_)<;>(have h':=q')<;>(try simp only [za1,za2,Ba,Bb,za3,ne_eq,za4,za5,za6,Ia,Ib,Ic,Ie,Da,Bc,Bd,Be,za7,za8] at h')<;>try (exfalso; omega)) | (have q':=trivial; first | refine callX_new (c1) rfl (by decide) ?_ | refine callY_new (c1) rfl ?_ | refine callX_new (c2) rfl (by decide) ?_ | refine callY_new (c2) rfl ?_ | refine hE _ _ ret_ne ?_ | refine hE _ _ exit_ne ?_))<;>(try simp (disch:=first | omega | decide +kernel) only [q',hei,D.ints,List.length_map,go_sem,Qa,Qb,Qc,Qd,Qe,↓reduceIte,reduceCtorEq,Qf,Qg,Qh])<;>clear q') | refine hN _ ?_ ?_ Wk.kk | with_reducible refine And.intro ?_ ?_ | with_reducible omega | exact ok_ints | exact cells_ints | exact no_mem | with_reducible exact plain_ints | (refine le_maxLen ?_; omega) | (refine za9 ⟨?_,?_⟩) | (simp only [go_sem,Qc,Qb,zb1,zb2,forall_eq]; done)))
   all_goals (first | (refine hN () _ hlt trivial ?_; exact (by refine Wk.auto ?_ ?_<;>simp [extraK,lk,killL,St.kill,wipeO,wipeS,AV.has,AV.hasL,AO.wipe,List.map_set,updSt,insL,dropS,ins,D.ints])))
 . obtain rfl : i=cs.length:=by omega
   simp (disch:=first | omega | decide +kernel) only [List.length_map,go_sem,Qa,Qb,Qc,Qd,Qe,↓reduceIte,reduceCtorEq,Qf,Qg,Qh]
   (repeat' (first | ((first | (refine gsel_split (fun q' => ?_) (fun q' => ?_)<;>(have h':=q')<;>(try simp only [za1,za2,Ba,Bb,za3,ne_eq,za4,za5,za6,Ia,Ib,Ic,Ie,Da,Bc,Bd,Be,za7,za8] at h')<;>try (exfalso; omega)) | (have q':=trivial; first | refine hE _ _ ret_ne ?_ | refine hE _ _ exit_ne ?_))<;>(try simp (disch:=first | omega | decide +kernel) only [q',List.length_map,go_sem,Qa,Qb,Qc,Qd,Qe,↓reduceIte,reduceCtorEq,Qf,Qg,Qh])<;>clear q') | refine hN _ ?_ ?_ Wk.kk | with_reducible refine And.intro ?_ ?_ | with_reducible omega | exact ok_ints | exact cells_ints | exact no_mem | with_reducible exact plain_ints | (refine le_maxLen ?_; omega) | (refine za9 ⟨?_,?_⟩) | (simp only [go_sem,Qc,Qb,zb1,zb2,forall_eq]; done)))
def ok3 (u : Int) (cs : List (List Int)) (a : List Int) : Bool:=okCnf u cs && okClause u a
theorem valueOfCnf_ok (u : Int) (cs : List (List Int)) (a : List Int) (z : Sz3 cs a) :
 Ctr Try.prog 17 [.agg [.int .i64 u,.slice (cs.map D.ints)],.ints a] false (.tup [.d (.int .i64 (if ok3 u cs a then mvI cs a cs.length else 0)),.d (.bool (ok3 u cs a))]) []:=by
 have zl:=z.hl
 have c1:=isCnf_ok u cs (by omega) fun j => by have:=getD_small (B:=100000) z.hc j; omega
 have c2:=isAssignment_ok u a (by have:=z.ha; omega)
 have c3:=fun h => cnfValue_ok cs a z (lits3 (u:=u) h)
 unfold ok3
 simp only [D.ints] at c2
 cases h1 : okCnf u cs<;>cases h2 : okClause u a<;>rw [h1] at c1<;>rw [h2] at c2
 all_goals
  refine Ctr.of (n:=20) (rs:=[.tmp 4,.tmp 5]) Try.func17 rfl rfl Try.ntmps17 rfl rfl (by kernel_rfl) Try.checked.mixed ?_
  simp (disch:=first | omega | decide +kernel) only [D.ints,go_sem,Qa,Qb,Qc,Qd,Qe,↓reduceIte,reduceCtorEq,Qf,Qg,Qh]
  (repeat' (first | ((first | (refine gsel_split (fun q' => ?_) (fun q' => ?_)<;>(have h':=q')<;>(try simp only [za1,za2,Ba,Bb,za3,ne_eq,za4,za5,za6,Ia,Ib,Ic,Ie,Da,Bc,Bd,Be,za7,za8] at h')<;>try (exfalso; omega)) | (have q':=trivial; first | refine callX_new (c1) rfl (by decide) ?_ | refine callY_new (c1) rfl ?_ | refine callX_new (c2) rfl (by decide) ?_ | refine callY_new (c2) rfl ?_ | refine callX_new (c3 h1) rfl (by decide) ?_ | refine callY_new (c3 h1) rfl ?_ | refine hE _ _ ret_ne ?_ | refine hE _ _ exit_ne ?_))<;>(try simp (disch:=first | omega | decide +kernel) only [q',D.ints,go_sem,Qa,Qb,Qc,Qd,Qe,↓reduceIte,reduceCtorEq,Qf,Qg,Qh])<;>clear q') | refine hN _ ?_ ?_ Wk.kk | with_reducible refine And.intro ?_ ?_ | with_reducible omega | exact ok_ints | exact cells_ints | exact no_mem | with_reducible exact plain_ints | (refine le_maxLen ?_; omega) | (refine za9 ⟨?_,?_⟩) | (simp only [go_sem,Qc,Qb,zb1,zb2,forall_eq]; done)))
 all_goals (first | rfl)
theorem sValueOfCnf_ok (u : Int) (cs : List (List Int)) (a : List Int) (z : Sz3 cs a) :
 Ctr Try.prog 18 [.agg [.int .i64 u,.slice (cs.map D.ints)],.ints a] false (.tup [.d (.int .i64 (if ok3 u cs a then mvI cs a cs.length else 0)),.d (.bool (ok3 u cs a))]) []:=by
 have zl:=z.hl
 have c1:=l3Asked_ok u cs a (by omega) (fun c hc => by have:=z.hc c hc; omega) (by have:=z.ha; omega)
 have c3:=fun h => l3CnfValue_ok u cs a z (lits3 (u:=u) h)
 unfold ok3
 simp only [D.ints] at c1
 cases h1 : okCnf u cs<;>cases h2 : okClause u a<;>rw [h1,h2] at c1
 all_goals
  refine Ctr.of (n:=13) (rs:=[.tmp 4,.tmp 5]) Try.func18 rfl rfl Try.ntmps18 rfl rfl (by kernel_rfl) Try.checked.mixed ?_
  simp (disch:=first | omega | decide +kernel) only [D.ints,go_sem,Qa,Qb,Qc,Qd,Qe,↓reduceIte,reduceCtorEq,Qf,Qg,Qh]
  (repeat' (first | ((first | (refine gsel_split (fun q' => ?_) (fun q' => ?_)<;>(have h':=q')<;>(try simp only [za1,za2,Ba,Bb,za3,ne_eq,za4,za5,za6,Ia,Ib,Ic,Ie,Da,Bc,Bd,Be,za7,za8] at h')<;>try (exfalso; omega)) | (have q':=trivial; first | refine callX_new (c1) rfl (by decide) ?_ | refine callY_new (c1) rfl ?_ | refine callX_new (c3 h1) rfl (by decide) ?_ | refine callY_new (c3 h1) rfl ?_ | refine hE _ _ ret_ne ?_ | refine hE _ _ exit_ne ?_))<;>(try simp (disch:=first | omega | decide +kernel) only [q',D.ints,go_sem,Qa,Qb,Qc,Qd,Qe,↓reduceIte,reduceCtorEq,Qf,Qg,Qh])<;>clear q') | refine hN _ ?_ ?_ Wk.kk | with_reducible refine And.intro ?_ ?_ | with_reducible omega | exact ok_ints | exact cells_ints | exact no_mem | with_reducible exact plain_ints | (refine le_maxLen ?_; omega) | (refine za9 ⟨?_,?_⟩) | (simp only [go_sem,Qc,Qb,zb1,zb2,forall_eq]; done)))
 all_goals (first | rfl)
theorem falseClausesG_ok (u : Int) (cs : List (List Int)) (a : List Int) (z : Sz3 cs a) :
 Ctr Try.prog 14 [.agg [.int .i64 u,.slice (cs.map D.ints)],.ints a] false (.tup [.sl 0,.d (.bool (ok3 u cs a))]) [(0,.arr 3 1 ((if ok3 u cs a then fcI cs a cs.length else []).map (.int .i64)))]:=by
 have zl:=z.hl
 have c1:=isCnf_ok u cs (by omega) fun j => by have:=getD_small (B:=100000) z.hc j; omega
 have c2:=isAssignment_ok u a (by have:=z.ha; omega)
 have c3:=fun h => falseClauses_ok cs a (by omega) (fun c hc => by have:=z.hc c hc; omega) (by have:=z.ha; omega) (lits3 (u:=u) h)
 unfold ok3
 simp only [D.ints] at c2 c3
 cases h1 : okCnf u cs<;>cases h2 : okClause u a<;>rw [h1] at c1<;>rw [h2] at c2
 all_goals
  refine Ctr.of (n:=20) (rs:=[.tmp 4,.tmp 5]) Try.func14 rfl rfl Try.ntmps14 rfl rfl (by kernel_rfl) Try.checked.mixed ?_
  simp (disch:=first | omega | decide +kernel) only [D.ints,go_sem,Qa,Qb,Qc,Qd,Qe,↓reduceIte,reduceCtorEq,Qf,Qg,Qh]
  (repeat' (first | ((first | (refine gsel_split (fun q' => ?_) (fun q' => ?_)<;>(have h':=q')<;>(try simp only [za1,za2,Ba,Bb,za3,ne_eq,za4,za5,za6,Ia,Ib,Ic,Ie,Da,Bc,Bd,Be,za7,za8] at h')<;>try (exfalso; omega)) | (have q':=trivial; first | refine callX_new (c1) rfl (by decide) ?_ | refine callY_new (c1) rfl ?_ | refine callX_new (c2) rfl (by decide) ?_ | refine callY_new (c2) rfl ?_ | refine callX_new (c3 h1) rfl (by decide) ?_ | refine callY_new (c3 h1) rfl ?_ | refine hE _ _ ret_ne ?_ | refine hE _ _ exit_ne ?_))<;>(try simp (disch:=first | omega | decide +kernel) only [q',D.ints,go_sem,Qa,Qb,Qc,Qd,Qe,↓reduceIte,reduceCtorEq,Qf,Qg,Qh])<;>clear q') | refine hN _ ?_ ?_ Wk.kk | with_reducible refine And.intro ?_ ?_ | with_reducible omega | exact ok_ints | exact cells_ints | exact no_mem | with_reducible exact plain_ints | (refine le_maxLen ?_; omega) | (refine za9 ⟨?_,?_⟩) | (simp only [go_sem,Qc,Qb,zb1,zb2,forall_eq]; done)))
 all_goals (first | exact ret_sld 4 rfl rfl rfl no_mem rfl | exact ret_sld 2000000 rfl rfl rfl plain_ints rfl)
set_option maxHeartbeats 4000000 in
theorem sFalseClauses_ok (u : Int) (cs : List (List Int)) (a : List Int) (z : Sz3 cs a) :
 Ctr Try.prog 15 [.agg [.int .i64 u,.slice (cs.map D.ints)],.ints a] false (.tup [.sl 0,.d (.bool (ok3 u cs a))]) [(0,.arr 3 1 ((if ok3 u cs a then fcI cs a cs.length else []).map (.int .i64)))]:=by
 have zl:=z.hl
 have c1:=l3Asked_ok u cs a (by omega) (fun c hc => by have:=z.hc c hc; omega) (by have:=z.ha; omega)
 simp only [D.ints] at c1
 cases hk : ok3 u cs a with
 | false =>
   have hk':=hk
   unfold ok3 at hk'
   rw [hk'] at c1
   refine Ctr.of (n:=34) (rs:=[.tmp 4,.tmp 5]) Try.func15 rfl rfl Try.ntmps15 rfl rfl (by kernel_rfl) Try.checked.mixed ?_
   simp (disch:=first | omega | decide +kernel) only [D.ints,go_sem,Qa,Qb,Qc,Qd,Qe,↓reduceIte,reduceCtorEq,Qf,Qg,Qh]
   (repeat' (first | ((first | (refine gsel_split (fun q' => ?_) (fun q' => ?_)<;>(have h':=q')<;>(try simp only [za1,za2,Ba,Bb,za3,ne_eq,za4,za5,za6,Ia,Ib,Ic,Ie,Da,Bc,Bd,Be,za7,za8] at h')<;>try (exfalso; omega)) | (have q':=trivial; first | refine callX_new (c1) rfl (by decide) ?_ | refine callY_new (c1) rfl ?_ | refine hE _ _ ret_ne ?_ | refine hE _ _ exit_ne ?_))<;>(try simp (disch:=first | omega | decide +kernel) only [q',D.ints,go_sem,Qa,Qb,Qc,Qd,Qe,↓reduceIte,reduceCtorEq,Qf,Qg,Qh])<;>clear q') | refine hN _ ?_ ?_ Wk.kk | with_reducible refine And.intro ?_ ?_ | with_reducible omega | exact ok_ints | exact cells_ints | exact no_mem | with_reducible exact plain_ints | (refine le_maxLen ?_; omega) | (refine za9 ⟨?_,?_⟩) | (simp only [go_sem,Qc,Qb,zb1,zb2,forall_eq]; done)))
   all_goals (first | exact ret_sld 8 rfl rfl rfl no_mem rfl)
 | true =>
   have hk':=hk
   unfold ok3 at hk'
   rw [hk'] at c1
   rw [Bc] at hk'
   have hs:=lits3 (u:=u) hk'.1
   refine Ctr.of (n:=34) (rs:=[.tmp 4,.tmp 5]) Try.func15 rfl rfl Try.ntmps15 rfl rfl (by kernel_rfl) Try.checked.mixed ?_
   simp (disch:=first | omega | decide +kernel) only [D.ints,go_sem,Qa,Qb,Qc,Qd,Qe,↓reduceIte,reduceCtorEq,Qf,Qg,Qh]
   (repeat' (first | ((first | (refine gsel_split (fun q' => ?_) (fun q' => ?_)<;>(have h':=q')<;>(try simp only [za1,za2,Ba,Bb,za3,ne_eq,za4,za5,za6,Ia,Ib,Ic,Ie,Da,Bc,Bd,Be,za7,za8] at h')<;>try (exfalso; omega)) | (have q':=trivial; first | refine callX_new (c1) rfl (by decide) ?_ | refine callY_new (c1) rfl ?_ | refine hE _ _ ret_ne ?_ | refine hE _ _ exit_ne ?_))<;>(try simp (disch:=first | omega | decide +kernel) only [q',D.ints,go_sem,Qa,Qb,Qc,Qd,Qe,↓reduceIte,reduceCtorEq,Qf,Qg,Qh])<;>clear q') | refine hN _ ?_ ?_ Wk.kk | with_reducible refine And.intro ?_ ?_ | with_reducible omega | exact ok_ints | exact cells_ints | exact no_mem | with_reducible exact plain_ints | (refine le_maxLen ?_; omega) | (refine za9 ⟨?_,?_⟩) | (simp only [go_sem,Qc,Qb,zb1,zb2,forall_eq]; done)))
   refine Ok.loopNO [33,32,31,30,29,28,27,26,25,24,23,22,21,20,19,18,17,16,15,14,13,12,11,10,9,8,7,6,5,4,3,0] (fun i _ => [(7,.d (.int .i64 (i : Nat))),(6,.sl 8)]) (fun _ (o : List Int) => [(8,.arr 3 1 (o.map (.int .i64)))]) cs.length (fun i o => o=fcI cs a i) [] rfl (Wk.kk) ?_
   rintro R i o hN hE hi ho
   have hol : o.length<=i:=by rw [ho]; exact fcI_len cs a i
   refine Ok.go ?_
   by_cases hlt : i < cs.length
   . have hei:=el_intss (xs:=cs) hlt
     have hm:=getD_mem (z:=([] : List Int)) hlt
     have c2:=l3Value_ok (cs.getD i []) a (by have:=z.hc _ hm; omega) (by have:=z.ha; omega) (hs _ hm)
     have hb:=cvI_bd (cs.getD i []) a
     have hsu : fcI cs a (i + 1)=if cvI (cs.getD i []) a < 0 then o++[(i : Int)] else o:=by rw [fcI,← ho]
     simp only [D.ints] at c2
     clear c1
     generalize cvI (cs.getD i []) a=v at *
     by_cases hv : v < 0
     . rw [if_pos hv] at hsu
       simp (disch:=first | omega | decide +kernel) only [hei,D.ints,List.length_map,go_sem,Qa,Qb,Qc,Qd,Qe,↓reduceIte,reduceCtorEq,Qf,Qg,Qh]
       (repeat' (first | ((first | (refine gsel_split (fun q' => ?_) (fun q' => ?_)<;>(have h':=q')<;>(try simp only [za1,za2,Ba,Bb,za3,ne_eq,za4,za5,za6,Ia,Ib,Ic,Ie,Da,Bc,Bd,Be,za7,za8] at h')<;>try (exfalso; omega)) | (have q':=trivial; first | refine callX_new (c2) rfl (by decide) ?_ | refine callY_new (c2) rfl ?_ | refine hE _ _ ret_ne ?_ | refine hE _ _ exit_ne ?_))<;>(try simp (disch:=first | omega | decide +kernel) only [q',hei,D.ints,List.length_map,go_sem,Qa,Qb,Qc,Qd,Qe,↓reduceIte,reduceCtorEq,Qf,Qg,Qh])<;>clear q') | refine hN _ ?_ ?_ Wk.kk | with_reducible refine And.intro ?_ ?_ | with_reducible omega | exact ok_ints | exact cells_ints | exact no_mem | with_reducible exact plain_ints | (refine le_maxLen ?_; omega) | (refine za9 ⟨?_,?_⟩) | (simp only [go_sem,Qc,Qb,zb1,zb2,forall_eq]; done)))
       all_goals (first | omega | exact hN (o++[(i : Int)]) _ hlt hsu.symm (by refine Wk.auto ?_ ?_<;>simp [extraK,lk,killL,St.kill,wipeO,wipeS,AV.has,AV.hasL,AO.wipe,List.map_set,updSt,insL,dropS,ins,List.map_append,List.map_cons,List.map_nil]))
     . rw [if_neg hv] at hsu
       simp (disch:=first | omega | decide +kernel) only [hei,D.ints,List.length_map,go_sem,Qa,Qb,Qc,Qd,Qe,↓reduceIte,reduceCtorEq,Qf,Qg,Qh]
       (repeat' (first | ((first | (refine gsel_split (fun q' => ?_) (fun q' => ?_)<;>(have h':=q')<;>(try simp only [za1,za2,Ba,Bb,za3,ne_eq,za4,za5,za6,Ia,Ib,Ic,Ie,Da,Bc,Bd,Be,za7,za8] at h')<;>try (exfalso; omega)) | (have q':=trivial; first | refine callX_new (c2) rfl (by decide) ?_ | refine callY_new (c2) rfl ?_ | refine hE _ _ ret_ne ?_ | refine hE _ _ exit_ne ?_))<;>(try simp (disch:=first | omega | decide +kernel) only [q',hei,D.ints,List.length_map,go_sem,Qa,Qb,Qc,Qd,Qe,↓reduceIte,reduceCtorEq,Qf,Qg,Qh])<;>clear q') | refine hN _ ?_ ?_ Wk.kk | with_reducible refine And.intro ?_ ?_ | with_reducible omega | exact ok_ints | exact cells_ints | exact no_mem | with_reducible exact plain_ints | (refine le_maxLen ?_; omega) | (refine za9 ⟨?_,?_⟩) | (simp only [go_sem,Qc,Qb,zb1,zb2,forall_eq]; done)))
       all_goals (first | omega | exact hN o _ hlt hsu.symm (by refine Wk.auto ?_ ?_<;>simp [extraK,lk,killL,St.kill,wipeO,wipeS,AV.has,AV.hasL,AO.wipe,List.map_set,updSt,insL,dropS,ins,]))
   . obtain rfl : i=cs.length:=by omega
     have hf : fcI cs a cs.length=o:=ho.symm
     simp (disch:=first | omega | decide +kernel) only [List.length_map,go_sem,Qa,Qb,Qc,Qd,Qe,↓reduceIte,reduceCtorEq,Qf,Qg,Qh]
     (repeat' (first | ((first | (refine gsel_split (fun q' => ?_) (fun q' => ?_)<;>(have h':=q')<;>(try simp only [za1,za2,Ba,Bb,za3,ne_eq,za4,za5,za6,Ia,Ib,Ic,Ie,Da,Bc,Bd,Be,za7,za8] at h')<;>try (exfalso; omega)) | (have q':=trivial; first | refine hE _ _ ret_ne ?_ | refine hE _ _ exit_ne ?_))<;>(try simp (disch:=first | omega | decide +kernel) only [q',List.length_map,go_sem,Qa,Qb,Qc,Qd,Qe,↓reduceIte,reduceCtorEq,Qf,Qg,Qh])<;>clear q') | refine hN _ ?_ ?_ Wk.kk | with_reducible refine And.intro ?_ ?_ | with_reducible omega | exact ok_ints | exact cells_ints | exact no_mem | with_reducible exact plain_ints | (refine le_maxLen ?_; omega) | (refine za9 ⟨?_,?_⟩) | (simp only [go_sem,Qc,Qb,zb1,zb2,forall_eq]; done)))
     all_goals (rw [hf]; first | exact ret_sld 8 rfl rfl rfl plain_ints rfl)
end Abs.Y
