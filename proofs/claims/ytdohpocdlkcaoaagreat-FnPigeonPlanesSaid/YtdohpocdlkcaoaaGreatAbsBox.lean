/- What functions of this program compute, over plain data. No condition. -/
import Derived.Test.YtdohpocdlkcaoaaGreatT1
import Derived.Test.YtdohpocdlkcaoaaGreatAbsOwn
set_option linter.all false
namespace Abs.Y
open Go Go.Proofs Abs
open Nat renaming reduceEqDiff -> Qa, reduceLT -> Qb, reduceAdd -> Qc, reduceMul -> Qd, reduceSub -> Qe, reduceLeDiff -> Qf, reduceSubDiff -> Qg, reduceBEq -> Qh
open Bool renaming not_eq_true' -> Ba, not_eq_false' -> Bb, and_eq_true -> Bc, or_eq_true -> Bd, or_eq_false_iff -> Be
open Int renaming ofNat_lt -> Ia, ofNat_le -> Ib, not_lt -> Ic, not_le -> Ie
open Decidable renaming not_not -> Da
set_option maxRecDepth 100000

structure PSt where
 q : Pl
 ru : Int
 l : Int
 r : Int
 n : Int
deriving DecidableEq
def PSt.z : PSt:=⟨⟨[],0⟩,0,0,0,0⟩
@[reducible] def D.pst (s : PSt) : D:=.agg [.ints s.q.co,.int .i64 s.q.bd,.int .i64 s.ru,.int .i64 s.l,.int .i64 s.r,.int .i64 s.n]
theorem el_pst {xs : List PSt} {i : Nat} (h : i < xs.length) : el (xs.map D.pst) i=D.pst (xs.getD i PSt.z):=el_map (f:=D.pst) PSt.z h
def coB (x : Int) : Bool:=decide (-1000<=x) && decide (x<=1000)
def okPl (u : Int) (q : Pl) : Bool:=(decide ((q.co.length : Int)=u) && (decide (-10000<=q.bd) && decide (q.bd<=10000))) && !(q.co.any fun x => !coB x)
theorem okPl_iff {u : Int} {q : Pl} : okPl u q=true↔(q.co.length : Int)=u∧(-10000<=q.bd∧q.bd<=10000)∧∀ x ∈ q.co,-1000<=x∧x<=1000:=by
 simp only [okPl,coB,Bc,decide_eq_true_eq,Ba,List.any_eq_false,Bool.not_eq_true,and_assoc]
 simp
theorem okPl_bd {u : Int} {q : Pl} (h : okPl u q=true) : Bd 10000 q∧(q.co.length : Int)=u:=by
 obtain ⟨h1,h2,h3⟩:=okPl_iff.1 h
 refine ⟨⟨fun j => ?_,h2⟩,h1⟩
 by_cases hj : j < q.co.length
 . have:=h3 _ (getD_mem (z:=(0 : Int)) hj); omega
 . rw [List.getD_eq_getElem?_getD,List.getElem?_eq_none (by omega)]; simp
theorem isIneq1_ok (x : Int) : Ctr Tryz.prog 154 [.int .i64 x] false (.d (.bool (!coB x))) []:=by
 have c1:=within_ok x (-1000) 1000
 unfold coB
 refine Ctr.of (n:=6) (rs:=[.tmp 2]) Tryz.func154 rfl rfl Tryz.ntmps154 rfl rfl (by kernel_rfl) Tryz.checked.mixed ?_
 simp (disch:=first | omega | decide +kernel) only [go_sem,Qa,Qb,Qc,Qd,Qe,↓reduceIte,reduceCtorEq,Qf,Qg,Qh]
 (repeat' (first | ((first | (refine gsel_split (fun q' => ?_) (fun q' => ?_)<;>(have h':=q')<;>(try simp only [za1,za2,Ba,Bb,za3,ne_eq,za4,za5,za6,Ia,Ib,Ic,Ie,Da,Bc,Bd,Be,za7,za8] at h')) | (have q':=trivial; first | refine callX_new (c1) rfl (by decide) ?_ | refine callY_new (c1) rfl ?_ | refine hE _ _ ret_ne ?_ | refine hE _ _ exit_ne ?_))<;>(try simp (disch:=first | omega | decide +kernel) only [q',go_sem,Qa,Qb,Qc,Qd,Qe,↓reduceIte,reduceCtorEq,Qf,Qg,Qh])<;>clear q') | refine hN _ ?_ ?_ Wk.kk | with_reducible refine And.intro ?_ ?_ | with_reducible omega | exact ok_ints | exact cells_ints | exact no_mem | with_reducible exact plain_ints | (refine le_maxLen ?_; omega) | (refine za9 ⟨?_,?_⟩) | (simp only [go_sem,Qc,Qb,zb1,zb2,forall_eq]; done)))
theorem indexFunc0_ok (xs : List Int) (g : FuncId) (p : Int->Bool) (hl : xs.length<=4294967296) (hp : ∀ x,Ctr Tryz.prog g [.int .i64 x] false (.d (.bool (p x))) []) :
 Ctr Tryz.prog 122 [.ints xs,.fn (.func g) [] []] false (.d (.int .i64 (idxI p xs))) []:=by
 refine Ctr.of (n:=19) (rs:=[.tmp 4]) Tryz.func122 rfl rfl Tryz.ntmps122 rfl rfl (by kernel_rfl) Tryz.checked.mixed ?_
 simp (disch:=first | omega | decide +kernel) only [D.ints,go_sem,Qa,Qb,Qc,Qd,Qe,↓reduceIte,reduceCtorEq,Qf,Qg,Qh]
 refine Ok.loopC [18,17,16,15,14,13,12,11,10,9,8,6,5,4,3,2] (fun i => [(8,.d (.int .i64 (i : Nat)))]) xs.length (fun i => ∀ j,j < i->p (xs.getD j 0)=false) (by simp) (Wk.kk) ?_
 intro R i hN hE hi hI
 by_cases hlt : i < xs.length
 . have hpi:=hp (xs.getD i 0)
   simp (disch:=first | omega | decide +kernel) only [go_sem,Qa,Qb,Qc,Qd,Qe,↓reduceIte,reduceCtorEq,Qf,Qg,Qh]
   (repeat' (first | ((first | (refine gsel_split (fun q' => ?_) (fun q' => ?_)<;>(have h':=q')<;>(try simp only [za1,za2,Ba,Bb,za3,ne_eq,za4,za5,za6,Ia,Ib,Ic,Ie,Da,Bc,Bd,Be,za7,za8] at h')) | (have q':=trivial; first | refine callX_new (hpi) rfl (by decide) ?_ | refine callY_new (hpi) rfl ?_ | refine hE _ _ ret_ne ?_ | refine hE _ _ exit_ne ?_))<;>(try simp (disch:=first | omega | decide +kernel) only [q',go_sem,Qa,Qb,Qc,Qd,Qe,↓reduceIte,reduceCtorEq,Qf,Qg,Qh])<;>clear q') | refine hN _ ?_ ?_ Wk.kk | with_reducible refine And.intro ?_ ?_ | with_reducible omega | exact ok_ints | exact cells_ints | exact no_mem | with_reducible exact plain_ints | (refine le_maxLen ?_; omega) | (refine za9 ⟨?_,?_⟩) | (simp only [go_sem,Qc,Qb,zb1,zb2,forall_eq]; done)))
   . rw [idxI_some hlt h' hI]
   . exact all_succ hI h'
 . simp (disch:=first | omega | decide +kernel) only [go_sem,Qa,Qb,Qc,Qd,Qe,↓reduceIte,reduceCtorEq,Qf,Qg,Qh]
   (repeat' (first | ((first | (refine gsel_split (fun q' => ?_) (fun q' => ?_)<;>(have h':=q')<;>(try simp only [za1,za2,Ba,Bb,za3,ne_eq,za4,za5,za6,Ia,Ib,Ic,Ie,Da,Bc,Bd,Be,za7,za8] at h')) | (have q':=trivial; first | refine hE _ _ ret_ne ?_ | refine hE _ _ exit_ne ?_))<;>(try simp (disch:=first | omega | decide +kernel) only [q',go_sem,Qa,Qb,Qc,Qd,Qe,↓reduceIte,reduceCtorEq,Qf,Qg,Qh])<;>clear q') | refine hN _ ?_ ?_ Wk.kk | with_reducible refine And.intro ?_ ?_ | with_reducible omega | exact ok_ints | exact cells_ints | exact no_mem | with_reducible exact plain_ints | (refine le_maxLen ?_; omega) | (refine za9 ⟨?_,?_⟩) | (simp only [go_sem,Qc,Qb,zb1,zb2,forall_eq]; done)))
   rw [idxI_none fun j hj => hI j (by omega)]
theorem containsFunc0_ok (xs : List Int) (g : FuncId) (p : Int->Bool) (hl : xs.length<=4294967296) (hp : ∀ x,Ctr Tryz.prog g [.int .i64 x] false (.d (.bool (p x))) []) :
 Ctr Tryz.prog 86 [.ints xs,.fn (.func g) [] []] false (.d (.bool (xs.any p))) []:=by
 have c1:=indexFunc0_ok xs g p hl hp
 rw [← idxI_ge]
 refine Ctr.of (n:=9) (rs:=[.tmp 4]) Tryz.func86 rfl rfl Tryz.ntmps86 rfl rfl (by kernel_rfl) Tryz.checked.mixed ?_
 simp (disch:=first | omega | decide +kernel) only [D.ints,go_sem,Qa,Qb,Qc,Qd,Qe,↓reduceIte,reduceCtorEq,Qf,Qg,Qh]
 simp only [D.ints] at c1
 (repeat' (first | ((first | (refine gsel_split (fun q' => ?_) (fun q' => ?_)<;>(have h':=q')<;>(try simp only [za1,za2,Ba,Bb,za3,ne_eq,za4,za5,za6,Ia,Ib,Ic,Ie,Da,Bc,Bd,Be,za7,za8] at h')) | (have q':=trivial; first | refine callX_new (c1) rfl (by decide) ?_ | refine callY_new (c1) rfl ?_ | refine hE _ _ ret_ne ?_ | refine hE _ _ exit_ne ?_))<;>(try simp (disch:=first | omega | decide +kernel) only [q',go_sem,Qa,Qb,Qc,Qd,Qe,↓reduceIte,reduceCtorEq,Qf,Qg,Qh])<;>clear q') | refine hN _ ?_ ?_ Wk.kk | with_reducible refine And.intro ?_ ?_ | with_reducible omega | exact ok_ints | exact cells_ints | exact no_mem | with_reducible exact plain_ints | (refine le_maxLen ?_; omega) | (refine za9 ⟨?_,?_⟩) | (simp only [go_sem,Qc,Qb,zb1,zb2,forall_eq]; done)))
theorem isIneq_ok (u : Int) (q : Pl) (hu : okVars u=true) (hl : q.co.length<=4294967296) : Ctr Tryz.prog 142 [.int .i64 u,D.pl q] false (.d (.bool (okPl u q))) []:=by
 have c1:=varsOk_ok u
 rw [hu] at c1
 have c2:=within_ok q.bd (-10000) 10000
 have c3:=containsFunc0_ok q.co 154 (fun x => !coB x) hl isIneq1_ok
 unfold okPl
 generalize (q.co.any fun x => !coB x)=any at *
 generalize (decide (-10000<=q.bd) && decide (q.bd<=10000))=w at *
 refine Ctr.of (n:=25) (rs:=[.tmp 4]) Tryz.func142 rfl rfl Tryz.ntmps142 rfl rfl (by kernel_rfl) Tryz.checked.mixed ?_
 simp (disch:=first | omega | decide +kernel) only [D.ints,go_sem,Qa,Qb,Qc,Qd,Qe,↓reduceIte,reduceCtorEq,Qf,Qg,Qh]
 simp only [D.ints] at c3
 (repeat' (first | ((first | (refine gsel_split (fun q' => ?_) (fun q' => ?_)<;>(have h':=q')<;>(try simp only [za1,za2,Ba,Bb,za3,ne_eq,za4,za5,za6,Ia,Ib,Ic,Ie,Da,Bc,Bd,Be,za7,za8] at h')) | (have q':=trivial; first | refine callX_new (c1) rfl (by decide) ?_ | refine callY_new (c1) rfl ?_ | refine callX_new (c2) rfl (by decide) ?_ | refine callY_new (c2) rfl ?_ | refine callX_new (c3) rfl (by decide) ?_ | refine callY_new (c3) rfl ?_ | refine hE _ _ ret_ne ?_ | refine hE _ _ exit_ne ?_))<;>(try simp (disch:=first | omega | decide +kernel) only [q',D.ints,go_sem,Qa,Qb,Qc,Qd,Qe,↓reduceIte,reduceCtorEq,Qf,Qg,Qh])<;>clear q') | refine hN _ ?_ ?_ Wk.kk | with_reducible refine And.intro ?_ ?_ | with_reducible omega | exact ok_ints | exact cells_ints | exact no_mem | with_reducible exact plain_ints | (refine le_maxLen ?_; omega) | (refine za9 ⟨?_,?_⟩) | (simp only [go_sem,Qc,Qb,zb1,zb2,forall_eq]; done)))
 all_goals (first | (simp_all; done) | omega)
theorem samePlane_ok (q r : Pl) (hl : q.co.length<=4294967296) : Ctr Tryz.prog 143 [D.pl q,D.pl r] false (.d (.bool (decide (q=r)))) []:=by
 have c1:=equal_ok q.co r.co hl
 have e : decide (q=r)=(decide (q.bd=r.bd) && decide (q.co=r.co)):=by
  rw [← Bool.decide_and]
  obtain ⟨a,b⟩:=q; obtain ⟨c,d⟩:=r
  simp only [Pl.mk.injEq]
  apply decide_eq_decide.2
  exact ⟨fun h => ⟨h.2,h.1⟩,fun h => ⟨h.2,h.1⟩⟩
 rw [e]
 generalize decide (q.co=r.co)=s at *
 refine Ctr.of (n:=17) (rs:=[.tmp 4]) Tryz.func143 rfl rfl Tryz.ntmps143 rfl rfl (by kernel_rfl) Tryz.checked.mixed ?_
 simp (disch:=first | omega | decide +kernel) only [D.ints,go_sem,Qa,Qb,Qc,Qd,Qe,↓reduceIte,reduceCtorEq,Qf,Qg,Qh]
 simp only [D.ints] at c1
 (repeat' (first | ((first | (refine gsel_split (fun q' => ?_) (fun q' => ?_)<;>(have h':=q')<;>(try simp only [za1,za2,Ba,Bb,za3,ne_eq,za4,za5,za6,Ia,Ib,Ic,Ie,Da,Bc,Bd,Be,za7,za8] at h')) | (have q':=trivial; first | refine callX_new (c1) rfl (by decide) ?_ | refine callY_new (c1) rfl ?_ | refine hE _ _ ret_ne ?_ | refine hE _ _ exit_ne ?_))<;>(try simp (disch:=first | omega | decide +kernel) only [q',D.ints,go_sem,Qa,Qb,Qc,Qd,Qe,↓reduceIte,reduceCtorEq,Qf,Qg,Qh])<;>clear q') | refine hN _ ?_ ?_ Wk.kk | with_reducible refine And.intro ?_ ?_ | with_reducible omega | exact ok_ints | exact cells_ints | exact no_mem | with_reducible exact plain_ints | (refine le_maxLen ?_; omega) | (refine za9 ⟨?_,?_⟩) | (simp only [go_sem,Qc,Qb,zb1,zb2,forall_eq]; done)))
 all_goals (first | rfl | (simp_all; done))
def befP (u : Int) (st : List PSt) (k : Nat) (i : Int) : Bool:=(decide (0<=i) && decide (i<=(k : Int) - 1)) && okPl u (st.getD i.toNat PSt.z).q
set_option maxHeartbeats 4000000 in
theorem planeBefore_ok (u : Int) (cs : List (List Int)) (st : List PSt) (k : Nat) (i : Int) (hu : okVars u=true) (hk : k < st.length) (hl : st.length<=1048576) (hx : ∀ j,(st.getD j PSt.z).q.co.length<=1048576) :
 Ctr Tryz.prog 151 [.agg [.int .i64 u,.slice (cs.map D.ints)],.slice (st.map D.pst),.int .i64 k,.int .i64 i] true (.tup [.d (D.pl (if befP u st k i then (st.getD i.toNat PSt.z).q else ⟨[],0⟩)),.d (.bool (befP u st k i))]) []:=by
 have c1:=within_ok i 0 ((k : Int) - 1)
 by_cases h1 : 0<=i∧i<=(k : Int) - 1
 . have e1 : (decide (0<=i) && decide (i<=(k : Int) - 1))=true:=by rw [← Bool.decide_and]; exact decide_eq_true h1
   have c2:=isIneq_ok u (st.getD i.toNat PSt.z).q hu (by have:=hx i.toNat; omega)
   unfold befP
   rw [e1] at c1 ⊢
   have hes : el (st.map D.pst) i.toNat=D.pst (st.getD i.toNat PSt.z):=el_pst (by omega)
   generalize st.getD i.toNat PSt.z=s at *
   cases hb : okPl u s.q with
   | true =>
     rw [hb] at c2
     refine Ctr.of (n:=32) (rs:=[.cell 8 43,.tmp 9]) Tryz.func151 rfl rfl Tryz.ntmps151 rfl rfl (by kernel_rfl) Tryz.checked.mixed ?_
     simp (disch:=first | omega | decide +kernel) only [D.ints,hes,go_sem,Qa,Qb,Qc,Qd,Qe,↓reduceIte,reduceCtorEq,Qf,Qg,Qh]
     (repeat' (first | ((first | (refine gsel_split (fun q' => ?_) (fun q' => ?_)<;>(have h':=q')<;>(try simp only [za1,za2,Ba,Bb,za3,ne_eq,za4,za5,za6,Ia,Ib,Ic,Ie,Da,Bc,Bd,Be,za7,za8] at h')) | (have q':=trivial; first | refine callX_new (c1) rfl (by decide) ?_ | refine callY_new (c1) rfl ?_ | refine callX_new (c2) rfl (by decide) ?_ | refine callY_new (c2) rfl ?_ | refine hE _ _ ret_ne ?_ | refine hE _ _ exit_ne ?_))<;>(try simp (disch:=first | omega | decide +kernel) only [q',D.ints,hes,go_sem,Qa,Qb,Qc,Qd,Qe,↓reduceIte,reduceCtorEq,Qf,Qg,Qh])<;>clear q') | refine hN _ ?_ ?_ Wk.kk | with_reducible refine And.intro ?_ ?_ | with_reducible omega | exact ok_ints | exact cells_ints | exact no_mem | with_reducible exact plain_ints | (refine le_maxLen ?_; omega) | (refine za9 ⟨?_,?_⟩) | (simp only [go_sem,Qc,Qb,zb1,zb2,forall_eq]; done)))
     all_goals (first | omega | exact ret_scbd [] rfl rfl rfl (by simp only [go_sem]) (by simp only [go_sem,List.length_cons,List.length_nil]) rfl (by simp only [go_sem]))
   | false =>
     rw [hb] at c2
     refine Ctr.of (n:=32) (rs:=[.cell 8 43,.tmp 9]) Tryz.func151 rfl rfl Tryz.ntmps151 rfl rfl (by kernel_rfl) Tryz.checked.mixed ?_
     simp (disch:=first | omega | decide +kernel) only [D.ints,hes,go_sem,Qa,Qb,Qc,Qd,Qe,↓reduceIte,reduceCtorEq,Qf,Qg,Qh]
     (repeat' (first | ((first | (refine gsel_split (fun q' => ?_) (fun q' => ?_)<;>(have h':=q')<;>(try simp only [za1,za2,Ba,Bb,za3,ne_eq,za4,za5,za6,Ia,Ib,Ic,Ie,Da,Bc,Bd,Be,za7,za8] at h')) | (have q':=trivial; first | refine callX_new (c1) rfl (by decide) ?_ | refine callY_new (c1) rfl ?_ | refine callX_new (c2) rfl (by decide) ?_ | refine callY_new (c2) rfl ?_ | refine hE _ _ ret_ne ?_ | refine hE _ _ exit_ne ?_))<;>(try simp (disch:=first | omega | decide +kernel) only [q',D.ints,hes,go_sem,Qa,Qb,Qc,Qd,Qe,↓reduceIte,reduceCtorEq,Qf,Qg,Qh])<;>clear q') | refine hN _ ?_ ?_ Wk.kk | with_reducible refine And.intro ?_ ?_ | with_reducible omega | exact ok_ints | exact cells_ints | exact no_mem | with_reducible exact plain_ints | (refine le_maxLen ?_; omega) | (refine za9 ⟨?_,?_⟩) | (simp only [go_sem,Qc,Qb,zb1,zb2,forall_eq]; done)))
     all_goals (first | omega | exact ret_scbd [] rfl rfl rfl (by simp only [go_sem]) (by simp only [go_sem,List.length_cons,List.length_nil]) rfl (by simp only [go_sem]))
 . have e1 : (decide (0<=i) && decide (i<=(k : Int) - 1))=false:=by rw [← Bool.decide_and]; exact decide_eq_false h1
   unfold befP
   rw [e1] at c1 ⊢
   refine Ctr.of (n:=32) (rs:=[.cell 8 43,.tmp 9]) Tryz.func151 rfl rfl Tryz.ntmps151 rfl rfl (by kernel_rfl) Tryz.checked.mixed ?_
   simp (disch:=first | omega | decide +kernel) only [D.ints,go_sem,Qa,Qb,Qc,Qd,Qe,↓reduceIte,reduceCtorEq,Qf,Qg,Qh]
   (repeat' (first | ((first | (refine gsel_split (fun q' => ?_) (fun q' => ?_)<;>(have h':=q')<;>(try simp only [za1,za2,Ba,Bb,za3,ne_eq,za4,za5,za6,Ia,Ib,Ic,Ie,Da,Bc,Bd,Be,za7,za8] at h')) | (have q':=trivial; first | refine callX_new (c1) rfl (by decide) ?_ | refine callY_new (c1) rfl ?_ | refine hE _ _ ret_ne ?_ | refine hE _ _ exit_ne ?_))<;>(try simp (disch:=first | omega | decide +kernel) only [q',D.ints,go_sem,Qa,Qb,Qc,Qd,Qe,↓reduceIte,reduceCtorEq,Qf,Qg,Qh])<;>clear q') | refine hN _ ?_ ?_ Wk.kk | with_reducible refine And.intro ?_ ?_ | with_reducible omega | exact ok_ints | exact cells_ints | exact no_mem | with_reducible exact plain_ints | (refine le_maxLen ?_; omega) | (refine za9 ⟨?_,?_⟩) | (simp only [go_sem,Qc,Qb,zb1,zb2,forall_eq]; done)))
   all_goals (first | omega | exact ret_scbd [] rfl rfl rfl (by simp only [go_sem]) (by simp only [go_sem,List.length_cons,List.length_nil]) rfl (by simp only [go_sem]))
end Abs.Y

namespace Abs
open Go Go.RowKit

mutual
def AV.bfz (j : Nat) (x : D) : AV->AV
 | .sl i => if i=j then .undef else .sl i
 | .p i o => if i=j then (if o=0 then .d (.ptr x) else .undef) else .p i o
 | .pe i k n o => if i=j then .undef else .pe i k n o
 | .mq i => if i=j then .undef else .mq i
 | .sf i k l => if i=j then .undef else .sf i k l
 | .vw i q n k => if q=j then .undef else .vw i q n k
 | .pv i q k n o => if q=j then .undef else .pv i q k n o
 | .tup xs => .tup (AV.bfzL j x xs)
 | .st xs => .st (AV.bfzL j x xs)
 | .fn f cs => .fn f (AV.bfzL j x cs)
 | y => y
def AV.bfzL (j : Nat) (x : D) : List AV->List AV
 | [] => []
 | y :: r => y.bfz j x :: AV.bfzL j x r
end
def bfzS (j : Nat) (x : D) : List (Nat × AV)->List (Nat × AV)
 | [] => []
 | (k,v) :: r => (k,v.bfz j x) :: bfzS j x r
def AO.bfz (j : Nat) (x : D) : AO->AO
 | .box e cells => .box e (AV.bfzL j x cells)
 | .dp t xs (some (c,some d)) => .dp t xs (if d=j then some (c,none) else some (c,some d))
 | y => y
def bfzO (j : Nat) (x : D) : List (Nat × AO)->List (Nat × AO)
 | [] => []
 | (k,v) :: r => if k=j then bfzO j x r else (k,v.bfz j x) :: bfzO j x r
def cutQ (P : Program) (N : Nat) (y : Code) (Q : Exit->St->Prop) (st : St) : Prop:=∃ st',Wk N st st'∧Awp P N y Q st'
end Abs
