/- What functions of this program compute, over plain data. No condition. -/
import Derived.Test.YtdohpocdlkcaoaaGreatT3a
set_option linter.all false
namespace Abs.Y
open Go Go.Proofs Abs
open Nat renaming reduceEqDiff -> Qa, reduceLT -> Qb, reduceAdd -> Qc, reduceMul -> Qd, reduceSub -> Qe, reduceLeDiff -> Qf, reduceSubDiff -> Qg, reduceBEq -> Qh
open Bool renaming not_eq_true' -> Ba, not_eq_false' -> Bb, and_eq_true -> Bc, or_eq_true -> Bd, or_eq_false_iff -> Be
open Int renaming ofNat_lt -> Ia, ofNat_le -> Ib, not_lt -> Ic, not_le -> Ie
open Decidable renaming not_not -> Da
set_option maxRecDepth 100000

set_option maxHeartbeats 16000000 in
theorem planeDue_ok (u : Int) (cs : List (List Int)) (st : List PSt) (k : Nat) (hu : okVars u=true) (hk : k < st.length) (hl : st.length<=1048576) (hx : ∀ j,(st.getD j PSt.z).q.co.length<=1048576)
 (hcl : cs.length<=1048576) (hcs : ∀ c ∈ cs,okClause u c=true) (hcx : ∀ c ∈ cs,c.length<=1048576) :
 Ctr Tryz.prog 141 [.agg [.int .i64 u,.slice (cs.map D.ints)],.slice (st.map D.pst),.int .i64 k] true (.tup [.d (D.pl (optP (dueP u cs st k))),.d (.bool (dueP u cs st k).isSome)]) []:=by
 have huv:=okVars_iff.1 hu
 have p1:=planeBefore_ok u cs st k (st.getD k PSt.z).l hu hk hl hx
 have p2:=planeBefore_ok u cs st k (st.getD k PSt.z).r hu hk hl hx
 have hb1:=qOf_bd (u:=u) (st:=st) (k:=k) (i:=(st.getD k PSt.z).l)
 have hb2:=qOf_bd (u:=u) (st:=st) (k:=k) (i:=(st.getD k PSt.z).r)
 have hes : el (st.map D.pst) k=D.pst (st.getD k PSt.z):=el_pst hk
 change Ctr _ _ _ _ (.tup [.d (D.pl (qOf u st k (st.getD k PSt.z).l)),_]) _ at p1
 change Ctr _ _ _ _ (.tup [.d (D.pl (qOf u st k (st.getD k PSt.z).r)),_]) _ at p2
 unfold dueP
 generalize qOf u st k (st.getD k PSt.z).l=q1 at *
 generalize qOf u st k (st.getD k PSt.z).r=q2 at *
 generalize befP u st k (st.getD k PSt.z).l=b1 at *
 generalize befP u st k (st.getD k PSt.z).r=b2 at *
 generalize st.getD k PSt.z=s at *
 have w1:=within_ok s.l 0 ((cs.length : Int) - 1)
 have w2:=isVar_ok u s.l
 have w3:=within_ok s.n 1 1000
 have w4:=within_ok s.n 2 1000
 have hlq1 : ∀ h : b1=true,q1.co.length<=4294967296:=fun h => by have:=(hb1 h).2; omega
 by_cases hc1 : c01 cs s
 . have e : dueQ u cs s b1 q1 b2 q2=some (planI u (cs.getD s.l.toNat [])):=by unfold dueQ; rw [if_pos hc1]
   obtain ⟨h1,⟨hl0,hl1⟩,hr,hn⟩:=hc1
   rw [e]
   rw [decide_eq_true hl0,decide_eq_true hl1] at w1
   have hm : cs.getD s.l.toNat [] ∈ cs:=getD_mem (by omega)
   have hec : el (cs.map D.ints) s.l.toNat=D.ints (cs.getD s.l.toNat []):=el_map (f:=D.ints) [] (by omega)
   have v1:=planeOf_ok u (cs.getD s.l.toNat []) (by have:=hcx _ hm; omega) (lits_ok (hcs _ hm))
   generalize cs.getD s.l.toNat []=c at *
   refine Ctr.of (n:=182) (rs:=[.cell 6 43,.tmp 7]) Tryz.func141 rfl rfl Tryz.ntmps141 rfl rfl (by kernel_rfl) Tryz.checked.mixed ?_
   simp (disch:=first | omega | decide +kernel) only [hes,D.ints,go_sem,Qa,Qb,Qc,Qd,Qe,↓reduceIte,reduceCtorEq,Qf,Qg,Qh]
   (repeat' (first | ((first | (refine gsel_split (fun q' => ?_) (fun q' => ?_)<;>(have h':=q')<;>(try simp only [za1,za2,Ba,Bb,za3,ne_eq,za4,za5,za6,Ia,Ib,Ic,Ie,Da,Bc,Bd,Be,za7,za8] at h')<;>try (exfalso; omega)) | (have q':=trivial; first | refine callX_new (w1) rfl (by decide) ?_ | refine callY_new (w1) rfl ?_ | refine callX_shared (p1) rfl (by decide) ?_ | refine callY_shared (p1) rfl ?_ | refine callX_shared (p2) rfl (by decide) ?_ | refine callY_shared (p2) rfl ?_ | refine callX_shared (v1) rfl (by decide) ?_ | refine callY_shared (v1) rfl ?_ | refine hE _ _ ret_ne ?_ | refine hE _ _ exit_ne ?_))<;>(try simp (disch:=first | omega | decide +kernel) only [q',D.ints,hes,hec,go_sem,Qa,Qb,Qc,Qd,Qe,↓reduceIte,reduceCtorEq,Qf,Qg,Qh])<;>clear q') | refine hN _ ?_ ?_ Wk.kk | with_reducible refine And.intro ?_ ?_ | with_reducible omega | exact ok_ints | exact cells_ints | exact no_mem | with_reducible exact plain_ints | (refine le_maxLen ?_; omega) | (refine za9 ⟨?_,?_⟩) | (simp only [go_sem,Qc,Qb,zb1,zb2,forall_eq]; done)))
   exact ret_scbd [] rfl rfl rfl (by simp only [go_sem]) (by simp only [go_sem,List.length_cons,List.length_nil]) rfl (by simp only [go_sem])
 by_cases hc2 : c02 u s
 . have e : dueQ u cs s b1 q1 b2 q2=some (sgl u s.l 1 0):=by unfold dueQ; rw [if_neg hc1,if_pos hc2]
   obtain ⟨h1,⟨hl0,hl1⟩,hr,hn⟩:=hc2
   rw [e]
   rw [decide_eq_true hl0,decide_eq_true hl1] at w2
   have v1:=varPlane_ok u s.l 1 0 huv ⟨hl0,hl1⟩
   refine Ctr.of (n:=182) (rs:=[.cell 6 43,.tmp 7]) Tryz.func141 rfl rfl Tryz.ntmps141 rfl rfl (by kernel_rfl) Tryz.checked.mixed ?_
   simp (disch:=first | omega | decide +kernel) only [hes,D.ints,go_sem,Qa,Qb,Qc,Qd,Qe,↓reduceIte,reduceCtorEq,Qf,Qg,Qh]
   (repeat' (first | ((first | (refine gsel_split (fun q' => ?_) (fun q' => ?_)<;>(have h':=q')<;>(try simp only [za1,za2,Ba,Bb,za3,ne_eq,za4,za5,za6,Ia,Ib,Ic,Ie,Da,Bc,Bd,Be,za7,za8] at h')<;>try (exfalso; omega)) | (have q':=trivial; first | refine callX_new (w2) rfl (by decide) ?_ | refine callY_new (w2) rfl ?_ | refine callX_shared (p1) rfl (by decide) ?_ | refine callY_shared (p1) rfl ?_ | refine callX_shared (p2) rfl (by decide) ?_ | refine callY_shared (p2) rfl ?_ | refine callX_shared (v1) rfl (by decide) ?_ | refine callY_shared (v1) rfl ?_ | refine hE _ _ ret_ne ?_ | refine hE _ _ exit_ne ?_))<;>(try simp (disch:=first | omega | decide +kernel) only [q',D.ints,hes,go_sem,Qa,Qb,Qc,Qd,Qe,↓reduceIte,reduceCtorEq,Qf,Qg,Qh])<;>clear q') | refine hN _ ?_ ?_ Wk.kk | with_reducible refine And.intro ?_ ?_ | with_reducible omega | exact ok_ints | exact cells_ints | exact no_mem | with_reducible exact plain_ints | (refine le_maxLen ?_; omega) | (refine za9 ⟨?_,?_⟩) | (simp only [go_sem,Qc,Qb,zb1,zb2,forall_eq]; done)))
   exact ret_scbd [] rfl rfl rfl (by simp only [go_sem]) (by simp only [go_sem,List.length_cons,List.length_nil]) rfl (by simp only [go_sem])
 by_cases hc3 : c03 u s
 . have e : dueQ u cs s b1 q1 b2 q2=some (sgl u s.l (-1) (-1)):=by unfold dueQ; rw [if_neg hc1,if_neg hc2,if_pos hc3]
   obtain ⟨h1,⟨hl0,hl1⟩,hr,hn⟩:=hc3
   rw [e]
   rw [decide_eq_true hl0,decide_eq_true hl1] at w2
   have v1:=varPlane_ok u s.l (-1) (-1) huv ⟨hl0,hl1⟩
   refine Ctr.of (n:=182) (rs:=[.cell 6 43,.tmp 7]) Tryz.func141 rfl rfl Tryz.ntmps141 rfl rfl (by kernel_rfl) Tryz.checked.mixed ?_
   simp (disch:=first | omega | decide +kernel) only [hes,D.ints,go_sem,Qa,Qb,Qc,Qd,Qe,↓reduceIte,reduceCtorEq,Qf,Qg,Qh]
   (repeat' (first | ((first | (refine gsel_split (fun q' => ?_) (fun q' => ?_)<;>(have h':=q')<;>(try simp only [za1,za2,Ba,Bb,za3,ne_eq,za4,za5,za6,Ia,Ib,Ic,Ie,Da,Bc,Bd,Be,za7,za8] at h')<;>try (exfalso; omega)) | (have q':=trivial; first | refine callX_new (w2) rfl (by decide) ?_ | refine callY_new (w2) rfl ?_ | refine callX_shared (p1) rfl (by decide) ?_ | refine callY_shared (p1) rfl ?_ | refine callX_shared (p2) rfl (by decide) ?_ | refine callY_shared (p2) rfl ?_ | refine callX_shared (v1) rfl (by decide) ?_ | refine callY_shared (v1) rfl ?_ | refine hE _ _ ret_ne ?_ | refine hE _ _ exit_ne ?_))<;>(try simp (disch:=first | omega | decide +kernel) only [q',D.ints,hes,go_sem,Qa,Qb,Qc,Qd,Qe,↓reduceIte,reduceCtorEq,Qf,Qg,Qh])<;>clear q') | refine hN _ ?_ ?_ Wk.kk | with_reducible refine And.intro ?_ ?_ | with_reducible omega | exact ok_ints | exact cells_ints | exact no_mem | with_reducible exact plain_ints | (refine le_maxLen ?_; omega) | (refine za9 ⟨?_,?_⟩) | (simp only [go_sem,Qc,Qb,zb1,zb2,forall_eq]; done)))
   exact ret_scbd [] rfl rfl rfl (by simp only [go_sem]) (by simp only [go_sem,List.length_cons,List.length_nil]) rfl (by simp only [go_sem])
 by_cases hc4 : s.ru=4∧b1=true∧b2=true∧s.n=0
 . have e : dueQ u cs s b1 q1 b2 q2=some (addP q1 q2):=by unfold dueQ; rw [if_neg hc1,if_neg hc2,if_neg hc3,if_pos hc4]
   obtain ⟨h1,rfl,rfl,hn⟩:=hc4
   rw [e]
   have v1:=addPlanes_ok (hlq1 rfl) (by have:=(hb1 rfl).2; have:=(hb2 rfl).2; omega) (hb1 rfl).1 (hb2 rfl).1 (by decide) (by decide)
   refine Ctr.of (n:=182) (rs:=[.cell 6 43,.tmp 7]) Tryz.func141 rfl rfl Tryz.ntmps141 rfl rfl (by kernel_rfl) Tryz.checked.mixed ?_
   simp (disch:=first | omega | decide +kernel) only [hes,D.ints,go_sem,Qa,Qb,Qc,Qd,Qe,↓reduceIte,reduceCtorEq,Qf,Qg,Qh]
   (repeat' (first | ((first | (refine gsel_split (fun q' => ?_) (fun q' => ?_)<;>(have h':=q')<;>(try simp only [za1,za2,Ba,Bb,za3,ne_eq,za4,za5,za6,Ia,Ib,Ic,Ie,Da,Bc,Bd,Be,za7,za8] at h')<;>try (exfalso; omega)) | (have q':=trivial; first | refine callX_shared (p1) rfl (by decide) ?_ | refine callY_shared (p1) rfl ?_ | refine callX_shared (p2) rfl (by decide) ?_ | refine callY_shared (p2) rfl ?_ | refine callX_shared (v1) rfl (by decide) ?_ | refine callY_shared (v1) rfl ?_ | refine hE _ _ ret_ne ?_ | refine hE _ _ exit_ne ?_))<;>(try simp (disch:=first | omega | decide +kernel) only [q',D.ints,hes,go_sem,Qa,Qb,Qc,Qd,Qe,↓reduceIte,reduceCtorEq,Qf,Qg,Qh])<;>clear q') | refine hN _ ?_ ?_ Wk.kk | with_reducible refine And.intro ?_ ?_ | with_reducible omega | exact ok_ints | exact cells_ints | exact no_mem | with_reducible exact plain_ints | (refine le_maxLen ?_; omega) | (refine za9 ⟨?_,?_⟩) | (simp only [go_sem,Qc,Qb,zb1,zb2,forall_eq]; done)))
   exact ret_scbd [] rfl rfl rfl (by simp only [go_sem]) (by simp only [go_sem,List.length_cons,List.length_nil]) rfl (by simp only [go_sem])
 by_cases hc5 : s.ru=5∧b1=true∧s.r=0∧(1<=s.n∧s.n<=1000)
 . have e : dueQ u cs s b1 q1 b2 q2=some (zipP (fun a _ => s.n * a) q1 q1):=by unfold dueQ; rw [if_neg hc1,if_neg hc2,if_neg hc3,if_neg hc4,if_pos hc5]
   obtain ⟨h1,rfl,hr,hn0,hn1⟩:=hc5
   rw [e]
   rw [decide_eq_true hn0,decide_eq_true hn1] at w3
   have v1:=scalePlane_ok (k:=s.n) ⟨hn0,hn1⟩ (hlq1 rfl) (hb1 rfl).1 (by decide) (by decide)
   refine Ctr.of (n:=182) (rs:=[.cell 6 43,.tmp 7]) Tryz.func141 rfl rfl Tryz.ntmps141 rfl rfl (by kernel_rfl) Tryz.checked.mixed ?_
   simp (disch:=first | omega | decide +kernel) only [hes,D.ints,go_sem,Qa,Qb,Qc,Qd,Qe,↓reduceIte,reduceCtorEq,Qf,Qg,Qh]
   (repeat' (first | ((first | (refine gsel_split (fun q' => ?_) (fun q' => ?_)<;>(have h':=q')<;>(try simp only [za1,za2,Ba,Bb,za3,ne_eq,za4,za5,za6,Ia,Ib,Ic,Ie,Da,Bc,Bd,Be,za7,za8] at h')<;>try (exfalso; omega)) | (have q':=trivial; first | refine callX_new (w3) rfl (by decide) ?_ | refine callY_new (w3) rfl ?_ | refine callX_shared (p1) rfl (by decide) ?_ | refine callY_shared (p1) rfl ?_ | refine callX_shared (p2) rfl (by decide) ?_ | refine callY_shared (p2) rfl ?_ | refine callX_shared (v1) rfl (by decide) ?_ | refine callY_shared (v1) rfl ?_ | refine hE _ _ ret_ne ?_ | refine hE _ _ exit_ne ?_))<;>(try simp (disch:=first | omega | decide +kernel) only [q',D.ints,hes,go_sem,Qa,Qb,Qc,Qd,Qe,↓reduceIte,reduceCtorEq,Qf,Qg,Qh])<;>clear q') | refine hN _ ?_ ?_ Wk.kk | with_reducible refine And.intro ?_ ?_ | with_reducible omega | exact ok_ints | exact cells_ints | exact no_mem | with_reducible exact plain_ints | (refine le_maxLen ?_; omega) | (refine za9 ⟨?_,?_⟩) | (simp only [go_sem,Qc,Qb,zb1,zb2,forall_eq]; done)))
   exact ret_scbd [] rfl rfl rfl (by simp only [go_sem]) (by simp only [go_sem,List.length_cons,List.length_nil]) rfl (by simp only [go_sem])
 by_cases hc6 : s.ru=6∧b1=true∧s.r=0∧(2<=s.n∧s.n<=1000)
 . have e : dueQ u cs s b1 q1 b2 q2=if oddK s.n q1=false then some (halfK s.n q1) else none:=by
    unfold dueQ; rw [if_neg hc1,if_neg hc2,if_neg hc3,if_neg hc4,if_neg hc5]
    obtain ⟨h1,h2,h3,h4⟩:=hc6
    by_cases ho : oddK s.n q1=false
    . rw [if_pos ⟨h1,h2,h3,h4,ho⟩,if_pos ho]
    . rw [if_neg (fun h => ho h.2.2.2.2),if_neg ho]
   obtain ⟨h1,rfl,hr,hn0,hn1⟩:=hc6
   rw [e]
   rw [decide_eq_true hn0,decide_eq_true hn1] at w4
   cases ho : oddK s.n q1 with
   | false =>
     rw [if_pos rfl]
     have v1:=dividePlaneK_ok (k:=s.n) ⟨by omega,hn1⟩ (hlq1 rfl) (hb1 rfl).1 (by decide) ho
     refine Ctr.of (n:=182) (rs:=[.cell 6 43,.tmp 7]) Tryz.func141 rfl rfl Tryz.ntmps141 rfl rfl (by kernel_rfl) Tryz.checked.mixed ?_
     simp (disch:=first | omega | decide +kernel) only [hes,D.ints,go_sem,Qa,Qb,Qc,Qd,Qe,↓reduceIte,reduceCtorEq,Qf,Qg,Qh]
     (repeat' (first | ((first | (refine gsel_split (fun q' => ?_) (fun q' => ?_)<;>(have h':=q')<;>(try simp only [za1,za2,Ba,Bb,za3,ne_eq,za4,za5,za6,Ia,Ib,Ic,Ie,Da,Bc,Bd,Be,za7,za8] at h')<;>try (exfalso; omega)) | (have q':=trivial; first | refine callX_new (w4) rfl (by decide) ?_ | refine callY_new (w4) rfl ?_ | refine callX_shared (p1) rfl (by decide) ?_ | refine callY_shared (p1) rfl ?_ | refine callX_shared (p2) rfl (by decide) ?_ | refine callY_shared (p2) rfl ?_ | refine callX_shared (v1) rfl (by decide) ?_ | refine callY_shared (v1) rfl ?_ | refine hE _ _ ret_ne ?_ | refine hE _ _ exit_ne ?_))<;>(try simp (disch:=first | omega | decide +kernel) only [q',D.ints,hes,go_sem,Qa,Qb,Qc,Qd,Qe,↓reduceIte,reduceCtorEq,Qf,Qg,Qh])<;>clear q') | refine hN _ ?_ ?_ Wk.kk | with_reducible refine And.intro ?_ ?_ | with_reducible omega | exact ok_ints | exact cells_ints | exact no_mem | with_reducible exact plain_ints | (refine le_maxLen ?_; omega) | (refine za9 ⟨?_,?_⟩) | (simp only [go_sem,Qc,Qb,zb1,zb2,forall_eq]; done)))
     exact ret_scbd [] rfl rfl rfl (by simp only [go_sem]) (by simp only [go_sem,List.length_cons,List.length_nil]) rfl (by simp only [go_sem])
   | true =>
     rw [if_neg (by decide)]
     have v1:=dividePlaneK_no (k:=s.n) ⟨by omega,hn1⟩ (hlq1 rfl) (hb1 rfl).1 (by decide) ho
     refine Ctr.of (n:=182) (rs:=[.cell 6 43,.tmp 7]) Tryz.func141 rfl rfl Tryz.ntmps141 rfl rfl (by kernel_rfl) Tryz.checked.mixed ?_
     simp (disch:=first | omega | decide +kernel) only [hes,D.ints,go_sem,Qa,Qb,Qc,Qd,Qe,↓reduceIte,reduceCtorEq,Qf,Qg,Qh]
     (repeat' (first | ((first | (refine gsel_split (fun q' => ?_) (fun q' => ?_)<;>(have h':=q')<;>(try simp only [za1,za2,Ba,Bb,za3,ne_eq,za4,za5,za6,Ia,Ib,Ic,Ie,Da,Bc,Bd,Be,za7,za8] at h')<;>try (exfalso; omega)) | (have q':=trivial; first | refine callX_new (w4) rfl (by decide) ?_ | refine callY_new (w4) rfl ?_ | refine callX_shared (p1) rfl (by decide) ?_ | refine callY_shared (p1) rfl ?_ | refine callX_shared (p2) rfl (by decide) ?_ | refine callY_shared (p2) rfl ?_ | refine callX_new (v1) rfl (by decide) ?_ | refine callY_new (v1) rfl ?_ | refine hE _ _ ret_ne ?_ | refine hE _ _ exit_ne ?_))<;>(try simp (disch:=first | omega | decide +kernel) only [q',D.ints,hes,go_sem,Qa,Qb,Qc,Qd,Qe,↓reduceIte,reduceCtorEq,Qf,Qg,Qh])<;>clear q') | refine hN _ ?_ ?_ Wk.kk | with_reducible refine And.intro ?_ ?_ | with_reducible omega | exact ok_ints | exact cells_ints | exact no_mem | with_reducible exact plain_ints | (refine le_maxLen ?_; omega) | (refine za9 ⟨?_,?_⟩) | (simp only [go_sem,Qc,Qb,zb1,zb2,forall_eq]; done)))
     exact ret_scbd [] rfl rfl rfl (by simp only [go_sem]) (by simp only [go_sem,List.length_cons,List.length_nil]) rfl (by simp only [go_sem])
 . have e : dueQ u cs s b1 q1 b2 q2=none:=by
    unfold dueQ; rw [if_neg hc1,if_neg hc2,if_neg hc3,if_neg hc4,if_neg hc5,if_neg fun h => hc6 ⟨h.1,h.2.1,h.2.2.1,h.2.2.2.1⟩]
   rw [e]
   unfold c01 at hc1
   unfold c02 at hc2
   unfold c03 at hc3
   clear hb1 hb2 hlq1 e
   cases b1<;>cases b2<;>simp only [true_and,false_and,and_false,not_false_eq_true,Bool.false_eq_true,not_true_eq_false] at hc4 hc5 hc6
   all_goals
    refine Ctr.of (n:=182) (rs:=[.cell 6 43,.tmp 7]) Tryz.func141 rfl rfl Tryz.ntmps141 rfl rfl (by kernel_rfl) Tryz.checked.mixed ?_
    simp (disch:=first | omega | decide +kernel) only [hes,D.ints,go_sem,Qa,Qb,Qc,Qd,Qe,↓reduceIte,reduceCtorEq,Qf,Qg,Qh]
    (repeat' (first | ((first | (refine gsel_split (fun q' => ?_) (fun q' => ?_)<;>(have h':=q')<;>(try simp only [za1,za2,Ba,Bb,za3,ne_eq,za4,za5,za6,Ia,Ib,Ic,Ie,Da,Bc,Bd,Be,za7,za8] at h')<;>try (exfalso; omega)) | (have q':=trivial; first | refine callX_new (w1) rfl (by decide) ?_ | refine callY_new (w1) rfl ?_ | refine callX_new (w2) rfl (by decide) ?_ | refine callY_new (w2) rfl ?_ | refine callX_new (w3) rfl (by decide) ?_ | refine callY_new (w3) rfl ?_ | refine callX_new (w4) rfl (by decide) ?_ | refine callY_new (w4) rfl ?_ | refine callX_shared (p1) rfl (by decide) ?_ | refine callY_shared (p1) rfl ?_ | refine callX_shared (p2) rfl (by decide) ?_ | refine callY_shared (p2) rfl ?_ | refine hE _ _ ret_ne ?_ | refine hE _ _ exit_ne ?_))<;>(try simp (disch:=first | omega | decide +kernel) only [q',D.ints,hes,go_sem,Qa,Qb,Qc,Qd,Qe,↓reduceIte,reduceCtorEq,Qf,Qg,Qh])<;>clear q') | refine hN _ ?_ ?_ Wk.kk | with_reducible refine And.intro ?_ ?_ | with_reducible omega | exact ok_ints | exact cells_ints | exact no_mem | with_reducible exact plain_ints | (refine le_maxLen ?_; omega) | (refine za9 ⟨?_,?_⟩) | (simp only [go_sem,Qc,Qb,zb1,zb2,forall_eq]; done)))
    all_goals (first | omega | exact ret_scbd [] rfl rfl rfl (by simp only [go_sem]) (by simp only [go_sem,List.length_cons,List.length_nil]) rfl (by simp only [go_sem]))
end Abs.Y
