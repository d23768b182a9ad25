/- What functions of this program compute, over plain data. No condition. -/
import Derived.Test.YtdohpocdlkcaoaaGreatT3
import Derived.Test.YtdohpocdlkcaoaaGreatAbsBox
set_option linter.all false
namespace Abs.Y
open Go Go.Proofs Abs
open Nat renaming reduceEqDiff -> Qa, reduceLT -> Qb, reduceAdd -> Qc, reduceMul -> Qd, reduceSub -> Qe, reduceLeDiff -> Qf, reduceSubDiff -> Qg, reduceBEq -> Qh
open Bool renaming not_eq_true' -> Ba, not_eq_false' -> Bb, and_eq_true -> Bc, or_eq_true -> Bd, or_eq_false_iff -> Be
open Int renaming ofNat_lt -> Ia, ofNat_le -> Ib, not_lt -> Ic, not_le -> Ie
open Decidable renaming not_not -> Da
set_option maxRecDepth 100000

theorem dueP_len {u : Int} {cs : List (List Int)} {st : List PSt} {k : Nat} {d : Pl} (hu : okVars u=true) (h : dueP u cs st k=some d) : d.co.length<=4294967296:=by
 have huv:=okVars_iff.1 hu
 have hb1:=qOf_bd (u:=u) (st:=st) (k:=k) (i:=(st.getD k PSt.z).l)
 unfold dueP dueQ at h
 split at h
 . cases h; have:=(planI_inv u (cs.getD (st.getD k PSt.z).l.toNat [])).2; omega
 split at h
 . cases h; simp [sgl]; omega
 split at h
 . cases h; simp [sgl]; omega
 split at h
 . rename_i h4; cases h; have:=(hb1 h4.2.1).2; simp only [addP,zipP,zipL_len]; omega
 split at h
 . rename_i h4; cases h; have:=(hb1 h4.2.1).2; simp only [zipP,zipL_len]; omega
 split at h
 . rename_i h4; cases h; have:=(hb1 h4.2.1).2; simp only [halfK,zipP,zipL_len]; omega
 . cases h
set_option maxHeartbeats 4000000 in
theorem planeCorrect_ok (u : Int) (cs : List (List Int)) (st : List PSt) (k : Nat) (hu : okVars u=true) (hk : k < st.length) (hl : st.length<=1048576) (hx : ∀ j,(st.getD j PSt.z).q.co.length<=1048576)
 (hcl : cs.length<=1048576) (hcs : ∀ c ∈ cs,okClause u c=true) (hcx : ∀ c ∈ cs,c.length<=1048576) :
 Ctr Tryz.prog 121 [.agg [.int .i64 u,.slice (cs.map D.ints)],.slice (st.map D.pst),.int .i64 k] false (.d (.bool (corrP u cs st k))) []:=by
 have p1:=planeDue_ok u cs st k hu hk hl hx hcl hcs hcx
 have hes : el (st.map D.pst) k=D.pst (st.getD k PSt.z):=el_pst hk
 have hxk:=hx k
 have hdl:=fun d => dueP_len (u:=u) (cs:=cs) (st:=st) (k:=k) (d:=d) hu
 unfold corrP
 generalize dueP u cs st k=o at *
 generalize st.getD k PSt.z=s at *
 have c1:=isIneq_ok u s.q hu (by omega)
 cases o with
 | none =>
   simp only [Option.isSome_none,optP] at p1
   rw [show decide ((none : Option Pl)=some s.q)=false from rfl,Bool.and_false]
   refine Ctr.of (n:=36) (rs:=[.tmp 6]) Tryz.func121 rfl rfl Tryz.ntmps121 rfl rfl (by kernel_rfl) Tryz.checked.mixed ?_
   simp (disch:=first | omega | decide +kernel) only [hes,D.ints,go_sem,Qa,Qb,Qc,Qd,Qe,↓reduceIte,reduceCtorEq,Qf,Qg,Qh]
   (repeat' (first | ((first | (refine gsel_split (fun q' => ?_) (fun q' => ?_)<;>(have h':=q')<;>(try simp only [za1,za2,Ba,Bb,za3,ne_eq,za4,za5,za6,Ia,Ib,Ic,Ie,Da,Bc,Bd,Be,za7,za8] at h')<;>try (exfalso; omega)) | (have q':=trivial; first | refine callX_shared (p1) rfl (by decide) ?_ | refine callY_shared (p1) rfl ?_ | refine callX_new (c1) rfl (by decide) ?_ | refine callY_new (c1) rfl ?_ | refine hE _ _ ret_ne ?_ | refine hE _ _ exit_ne ?_))<;>(try simp (disch:=first | omega | decide +kernel) only [q',D.ints,hes,go_sem,Qa,Qb,Qc,Qd,Qe,↓reduceIte,reduceCtorEq,Qf,Qg,Qh])<;>clear q') | refine hN _ ?_ ?_ Wk.kk | with_reducible refine And.intro ?_ ?_ | with_reducible omega | exact ok_ints | exact cells_ints | exact no_mem | with_reducible exact plain_ints | (refine le_maxLen ?_; omega) | (refine za9 ⟨?_,?_⟩) | (simp only [go_sem,Qc,Qb,zb1,zb2,forall_eq]; done)))
   all_goals (first | rfl)
 | some d =>
   simp only [Option.isSome_some,optP] at p1
   have c2:=samePlane_ok d s.q (hdl d rfl)
   rw [show decide (some d=some s.q)=decide (d=s.q) by simp]
   generalize okPl u s.q=b at *
   generalize decide (d=s.q)=e at *
   refine Ctr.of (n:=36) (rs:=[.tmp 6]) Tryz.func121 rfl rfl Tryz.ntmps121 rfl rfl (by kernel_rfl) Tryz.checked.mixed ?_
   simp (disch:=first | omega | decide +kernel) only [hes,D.ints,go_sem,Qa,Qb,Qc,Qd,Qe,↓reduceIte,reduceCtorEq,Qf,Qg,Qh]
   (repeat' (first | ((first | (refine gsel_split (fun q' => ?_) (fun q' => ?_)<;>(have h':=q')<;>(try simp only [za1,za2,Ba,Bb,za3,ne_eq,za4,za5,za6,Ia,Ib,Ic,Ie,Da,Bc,Bd,Be,za7,za8] at h')<;>try (exfalso; omega)) | (have q':=trivial; first | refine callX_shared (p1) rfl (by decide) ?_ | refine callY_shared (p1) rfl ?_ | refine callX_new (c1) rfl (by decide) ?_ | refine callY_new (c1) rfl ?_ | refine callX_new (c2) rfl (by decide) ?_ | refine callY_new (c2) rfl ?_ | refine hE _ _ ret_ne ?_ | refine hE _ _ exit_ne ?_))<;>(try simp (disch:=first | omega | decide +kernel) only [q',D.ints,hes,go_sem,Qa,Qb,Qc,Qd,Qe,↓reduceIte,reduceCtorEq,Qf,Qg,Qh])<;>clear q') | refine hN _ ?_ ?_ Wk.kk | with_reducible refine And.intro ?_ ?_ | with_reducible omega | exact ok_ints | exact cells_ints | exact no_mem | with_reducible exact plain_ints | (refine le_maxLen ?_; omega) | (refine za9 ⟨?_,?_⟩) | (simp only [go_sem,Qc,Qb,zb1,zb2,forall_eq]; done)))
   all_goals (first | rfl | (simp_all; done))
end Abs.Y

namespace Abs.Y
open Go Go.Proofs Abs
open Nat renaming reduceEqDiff -> Qa, reduceLT -> Qb, reduceAdd -> Qc, reduceMul -> Qd, reduceSub -> Qe, reduceLeDiff -> Qf, reduceSubDiff -> Qg, reduceBEq -> Qh
open Bool renaming not_eq_true' -> Ba, not_eq_false' -> Bb, and_eq_true -> Bc, or_eq_true -> Bd, or_eq_false_iff -> Be
open Int renaming ofNat_lt -> Ia, ofNat_le -> Ib, not_lt -> Ic, not_le -> Ie
open Decidable renaming not_not -> Da
set_option maxRecDepth 100000

def useP (s : PSt) : List Int:=if s.ru=4 then [s.l,s.r] else if s.ru=5∨s.ru=6 then [s.l] else []
def FineP (st : List PSt) (k : Nat) : Prop:=∀ p ∈ useP (st.getD k PSt.z),0<=p∧p < k
end Abs.Y

namespace Abs.Y
open Go Go.Proofs Abs
open Nat renaming reduceEqDiff -> Qa, reduceLT -> Qb, reduceAdd -> Qc, reduceMul -> Qd, reduceSub -> Qe, reduceLeDiff -> Qf, reduceSubDiff -> Qg, reduceBEq -> Qh
open Bool renaming not_eq_true' -> Ba, not_eq_false' -> Bb, and_eq_true -> Bc, or_eq_true -> Bd, or_eq_false_iff -> Be
open Int renaming ofNat_lt -> Ia, ofNat_le -> Ib, not_lt -> Ic, not_le -> Ie
open Decidable renaming not_not -> Da
set_option maxRecDepth 100000

def wrongP (u : Int) (cs : List (List Int)) (st : List PSt) : Int:=idxR (fun k => !corrP u cs st k) st.length
set_option maxHeartbeats 4000000 in
theorem firstBadPlane_ok (u : Int) (cs : List (List Int)) (st : List PSt) (hu : okVars u=true) (hl : st.length<=1048576) (hx : ∀ j,(st.getD j PSt.z).q.co.length<=1048576)
 (hcl : cs.length<=1048576) (hcs : ∀ c ∈ cs,okClause u c=true) (hcx : ∀ c ∈ cs,c.length<=1048576) :
 Ctr Tryz.prog 85 [.agg [.int .i64 u,.slice (cs.map D.ints)],.slice (st.map D.pst)] false (.d (.int .i64 (wrongP u cs st))) []:=by
 have hc:=fun k hk => planeCorrect_ok u cs st k hu hk hl hx hcl hcs hcx
 unfold wrongP
 refine Ctr.of (n:=18) (rs:=[.tmp 4]) Tryz.func85 rfl rfl Tryz.ntmps85 rfl rfl (by kernel_rfl) Tryz.checked.mixed ?_
 simp (disch:=first | omega | decide +kernel) only [go_sem,Qa,Qb,Qc,Qd,Qe,↓reduceIte,reduceCtorEq,Qf,Qg,Qh]
 refine Ok.loopC [17,16,15,14,13,12,11,10,9,8,6,5,4,3,0] (fun i => [(8,.d (.int .i64 (i : Nat)))]) st.length (fun i => ∀ j,j < i->(!corrP u cs st j)=false) (by simp) (Wk.kk) ?_
 intro R i hN hE hi hI
 by_cases hlt : i < st.length
 . have c1:=hc i hlt
   cases hb : corrP u cs st i with
   | true =>
     rw [hb] at c1
     simp (disch:=first | omega | decide +kernel) only [go_sem,Qa,Qb,Qc,Qd,Qe,↓reduceIte,reduceCtorEq,Qf,Qg,Qh]
     (repeat' (first | ((first | (refine gsel_split (fun q' => ?_) (fun q' => ?_)<;>(have h':=q')<;>(try simp only [za1,za2,Ba,Bb,za3,ne_eq,za4,za5,za6,Ia,Ib,Ic,Ie,Da,Bc,Bd,Be,za7,za8] at h')<;>try (exfalso; omega)) | (have q':=trivial; first | refine callX_new (c1) rfl (by decide) ?_ | refine callY_new (c1) rfl ?_ | refine hE _ _ ret_ne ?_ | refine hE _ _ exit_ne ?_))<;>(try simp (disch:=first | omega | decide +kernel) only [q',go_sem,Qa,Qb,Qc,Qd,Qe,↓reduceIte,reduceCtorEq,Qf,Qg,Qh])<;>clear q') | refine hN _ ?_ ?_ Wk.kk | with_reducible refine And.intro ?_ ?_ | with_reducible omega | exact ok_ints | exact cells_ints | exact no_mem | with_reducible exact plain_ints | (refine le_maxLen ?_; omega) | (refine za9 ⟨?_,?_⟩) | (simp only [go_sem,Qc,Qb,zb1,zb2,forall_eq]; done)))
     all_goals (first | exact all_succ hI (by rw [hb]; rfl))
   | false =>
     rw [hb] at c1
     simp (disch:=first | omega | decide +kernel) only [go_sem,Qa,Qb,Qc,Qd,Qe,↓reduceIte,reduceCtorEq,Qf,Qg,Qh]
     (repeat' (first | ((first | (refine gsel_split (fun q' => ?_) (fun q' => ?_)<;>(have h':=q')<;>(try simp only [za1,za2,Ba,Bb,za3,ne_eq,za4,za5,za6,Ia,Ib,Ic,Ie,Da,Bc,Bd,Be,za7,za8] at h')<;>try (exfalso; omega)) | (have q':=trivial; first | refine callX_new (c1) rfl (by decide) ?_ | refine callY_new (c1) rfl ?_ | refine hE _ _ ret_ne ?_ | refine hE _ _ exit_ne ?_))<;>(try simp (disch:=first | omega | decide +kernel) only [q',go_sem,Qa,Qb,Qc,Qd,Qe,↓reduceIte,reduceCtorEq,Qf,Qg,Qh])<;>clear q') | refine hN _ ?_ ?_ Wk.kk | with_reducible refine And.intro ?_ ?_ | with_reducible omega | exact ok_ints | exact cells_ints | exact no_mem | with_reducible exact plain_ints | (refine le_maxLen ?_; omega) | (refine za9 ⟨?_,?_⟩) | (simp only [go_sem,Qc,Qb,zb1,zb2,forall_eq]; done)))
     all_goals (first | (rw [idxR_some hlt (by rw [hb]; rfl) hI]; done) | rw [idxR_some hlt (by rw [hb]; rfl) hI])
 . simp (disch:=first | omega | decide +kernel) only [go_sem,Qa,Qb,Qc,Qd,Qe,↓reduceIte,reduceCtorEq,Qf,Qg,Qh]
   (repeat' (first | ((first | (refine gsel_split (fun q' => ?_) (fun q' => ?_)<;>(have h':=q')<;>(try simp only [za1,za2,Ba,Bb,za3,ne_eq,za4,za5,za6,Ia,Ib,Ic,Ie,Da,Bc,Bd,Be,za7,za8] at h')<;>try (exfalso; omega)) | (have q':=trivial; first | refine hE _ _ ret_ne ?_ | refine hE _ _ exit_ne ?_))<;>(try simp (disch:=first | omega | decide +kernel) only [q',go_sem,Qa,Qb,Qc,Qd,Qe,↓reduceIte,reduceCtorEq,Qf,Qg,Qh])<;>clear q') | refine hN _ ?_ ?_ Wk.kk | with_reducible refine And.intro ?_ ?_ | with_reducible omega | exact ok_ints | exact cells_ints | exact no_mem | with_reducible exact plain_ints | (refine le_maxLen ?_; omega) | (refine za9 ⟨?_,?_⟩) | (simp only [go_sem,Qc,Qb,zb1,zb2,forall_eq]; done)))
   all_goals (first | rw [idxR_none fun j hj => hI j (by omega)])
end Abs.Y
