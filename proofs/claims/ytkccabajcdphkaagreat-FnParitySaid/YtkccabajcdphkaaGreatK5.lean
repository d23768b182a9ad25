/- What functions of this program compute, over plain data. No condition. -/
import Derived.Test.YtkccabajcdphkaaGreatK2
set_option linter.all false
namespace Abs.Y
open Go Go.Proofs Abs
open Nat renaming reduceEqDiff -> Qa, reduceLT -> Qb, reduceAdd -> Qc, reduceMul -> Qd, reduceSub -> Qe, reduceLeDiff -> Qf, reduceSubDiff -> Qg, reduceBEq -> Qh
open Bool renaming not_eq_true' -> Ba, not_eq_false' -> Bb, and_eq_true -> Bc, or_eq_true -> Bh, or_eq_false_iff -> Be
open Int renaming ofNat_lt -> Ia, ofNat_le -> Ib, not_lt -> Ic, not_le -> Ie
open Decidable renaming not_not -> Da
set_option maxRecDepth 100000

def edOk (n : Int) (e : Int × Int) : Bool:=decide (0<=e.1∧e.1 < e.2∧e.2 < n)
def chOk (g : Chg) (v : Nat) : Bool:=decide (0<=g.ch.getD v 0∧g.ch.getD v 0<=1) && decide ((xb0 g v).length<=4)
def xl0 (g : Chg) : Prop:=(1<=g.n∧g.n<=8)∧g.ed.length<=12∧(g.ch.length : Int)=g.n
instance (g : Chg) : Decidable (xl0 g):=by unfold xl0; infer_instance
def xc7 (g : Chg) : Bool:=decide (xl0 g) && (decide (∀ k,k < g.ed.length->edOk g.n (g.ed.getD k (0,0))=true) && decide (∀ v,v < g.ch.length->chOk g v=true))
theorem ze6 {g : Chg} (h : ¬ xl0 g) : xc7 g=false:=by unfold xc7; rw [decide_eq_false h]; rfl
theorem xt4 {g : Chg} {k : Nat} (hk : k < g.ed.length) (h : edOk g.n (g.ed.getD k (0,0))=false) : xc7 g=false:=by
 unfold xc7; rw [decide_eq_false (p:=∀ k,k < g.ed.length->_) fun h' => by rw [h' k hk] at h; cases h]; simp
theorem xz0 {g : Chg} {v : Nat} (hv : v < g.ch.length) (h : chOk g v=false) : xc7 g=false:=by
 unfold xc7; rw [decide_eq_false (p:=∀ v,v < g.ch.length->_) fun h' => by rw [h' v hv] at h; cases h]; simp
theorem yg6 {g : Chg} (h1 : xl0 g) (h2 : ∀ k,k < g.ed.length->edOk g.n (g.ed.getD k (0,0))=true) (h3 : ∀ v,v < g.ch.length->chOk g v=true) : xc7 g=true:=by
 unfold xc7; rw [decide_eq_true h1,decide_eq_true h2,decide_eq_true h3]; rfl
theorem xd4 {g : Chg} (h : xc7 g=true) : xl0 g∧(∀ k,k < g.ed.length->edOk g.n (g.ed.getD k (0,0))=true)∧∀ v,v < g.ch.length->chOk g v=true:=by
 simpa [xc7] using h
theorem zf2 {n : Int} {e : Int × Int} (h : ¬ (0<=e.1∧e.1 < e.2∧e.2 < n)) : edOk n e=false:=decide_eq_false h
theorem zs5 {n : Int} {e : Int × Int} (h : 0<=e.1∧e.1 < e.2∧e.2 < n) : edOk n e=true:=decide_eq_true h
theorem zt4 {g : Chg} {v : Nat} (h : (decide (0<=g.ch.getD v 0) && decide (g.ch.getD v 0<=1))=false) : chOk g v=false:=by
 unfold chOk; rw [Bool.decide_and,h]; rfl
theorem zt3 {g : Chg} {v : Nat} (h : ¬ (xb0 g v).length<=4) : chOk g v=false:=by
 unfold chOk; rw [decide_eq_false h,Bool.and_false]
theorem zt2 {g : Chg} {v : Nat} (h1 : 0<=g.ch.getD v 0∧g.ch.getD v 0<=1) (h2 : (xb0 g v).length<=4) : chOk g v=true:=by
 unfold chOk; rw [decide_eq_true h1,decide_eq_true h2]; rfl
set_option maxHeartbeats 8000000 in
theorem xl8 (g : Chg) (hl : g.ed.length<=4294967296) (hc : g.ch.length<=4294967296) : Ctr Tryz.prog 9 [D.chg g] false (.d (.bool (xc7 g))) []:=by
 have c1:=xo2 g.n 1 8
 refine Ctr.of (n:=69) (rs:=[.tmp 2]) Tryz.func9 rfl rfl Tryz.ntmps9 rfl rfl (by kernel_rfl) Tryz.checked.mixed ?_
 by_cases hs : xl0 g
 . have hs':=hs
   obtain ⟨⟨s1,s2⟩,s3,s4⟩:=hs'
   rw [decide_eq_true s1,decide_eq_true s2] at c1
   simp (disch:=first | omega | decide +kernel) only [D.chg,D.ints,go_sem,Qa,Qb,Qc,Qd,Qe,↓reduceIte,reduceCtorEq,Qf,Qg,Qh]
   (repeat' (first | ((first | (refine xa0 ?_ ?_<;>intro q'<;>(have h':=q')<;>(try simp only [zz] at h')) | (have q':=trivial; first | refine xa3 (c1) rfl (by decide) ?_ | refine xa4 (c1) rfl ?_ | refine hE _ _ xa5 ?_ | refine hE _ _ xa2 ?_))<;>(try simp (disch:=first | omega | decide +kernel) only [q',D.chg,D.ints,go_sem,Qa,Qb,Qc,Qd,Qe,↓reduceIte,reduceCtorEq,Qf,Qg,Qh])<;>clear q') | refine hN _ ?_ ?_ Wk.kk | (with_reducible first | refine And.intro ?_ ?_ | omega) | exact xb8 | exact xa8 | exact xa6 | with_reducible exact xa7 | (refine xa1 ?_; omega) | (refine za9 ⟨?_,?_⟩) | (simp only [go_sem,Qc,Qb,zb1,zb2,forall_eq]; done)))
   refine Ok.loopC [49,48,47,46,45,44,43,42,41,40,39,38,37,36,35,34,33,32,31,30,29,28,4,2] (fun i => [(28,.d (.int .i64 (i : Nat)))]) g.ed.length (fun i => ∀ k,k < i->edOk g.n (g.ed.getD k (0,0))=true) (by simp) (Wk.kk) ?_
   intro R i hN hE hi hI
   by_cases hlt : i < g.ed.length
   . simp (disch:=first | omega | decide +kernel) only [xg3,xl9,xm9,xd0,go_sem,Qa,Qb,Qc,Qd,Qe,↓reduceIte,reduceCtorEq,Qf,Qg,Qh]
     (repeat' (first | ((first | (refine xa0 ?_ ?_<;>intro q'<;>(have h':=q')<;>(try simp only [zz] at h')) | (have q':=trivial; first | refine hE _ _ xa5 ?_ | refine hE _ _ xa2 ?_))<;>(try simp (disch:=first | omega | decide +kernel) only [q',xg3,xl9,xm9,xd0,go_sem,Qa,Qb,Qc,Qd,Qe,↓reduceIte,reduceCtorEq,Qf,Qg,Qh])<;>clear q') | refine hN _ ?_ ?_ Wk.kk | (with_reducible first | refine And.intro ?_ ?_ | omega) | exact xb8 | exact xa8 | exact xa6 | with_reducible exact xa7 | (refine xa1 ?_; omega) | (refine za9 ⟨?_,?_⟩) | (simp only [go_sem,Qc,Qb,zb1,zb2,forall_eq]; done)))
     all_goals (first | (rw [xt4 hlt (zf2 (by omega))]; done) | (rw [xt4 hlt (zf2 (by omega))]; rfl) | (exact xi8 hI (zs5 (by omega))))
   . have hI' : ∀ k,k < g.ed.length->edOk g.n (g.ed.getD k (0,0))=true:=fun k hk => hI k (by omega)
     simp (disch:=first | omega | decide +kernel) only [go_sem,Qa,Qb,Qc,Qd,Qe,↓reduceIte,reduceCtorEq,Qf,Qg,Qh]
     (repeat' (first | ((first | (refine xa0 ?_ ?_<;>intro q'<;>(have h':=q')<;>(try simp only [zz] at h')) | (have q':=trivial; first | refine hE _ _ xa5 ?_ | refine hE _ _ xa2 ?_))<;>(try simp (disch:=first | omega | decide +kernel) only [q',go_sem,Qa,Qb,Qc,Qd,Qe,↓reduceIte,reduceCtorEq,Qf,Qg,Qh])<;>clear q') | refine hN _ ?_ ?_ Wk.kk | (with_reducible first | refine And.intro ?_ ?_ | omega) | exact xb8 | exact xa8 | exact xa6 | with_reducible exact xa7 | (refine xa1 ?_; omega) | (refine za9 ⟨?_,?_⟩) | (simp only [go_sem,Qc,Qb,zb1,zb2,forall_eq]; done)))
     refine Ok.loopC [68,67,66,65,64,63,62,61,60,59,58,57,56,55,54,53,6,5,2] (fun i => [(53,.d (.int .i64 (i : Nat)))]) g.ch.length (fun i => ∀ v,v < i->chOk g v=true) (by simp) (Wk.kk) ?_
     clear hN hE hi hI
     intro R i hN hE hi hI
     by_cases hlt : i < g.ch.length
     . have c2:=xo2 (g.ch.getD i 0) 0 1
       have c3:=Ctr.data1 (zv1 g i hl)
       have hle:=xg4 g i g.ed.length
       change (xb0 g i).length<=_ at hle
       change Ctr _ _ [.agg [.int .i64 g.n,.slice (g.ed.map D.ed),.slice (g.ch.map (.int .i64))],_] _ _ _ at c3
       simp (disch:=first | omega | decide +kernel) only [D.ints,go_sem,Qa,Qb,Qc,Qd,Qe,↓reduceIte,reduceCtorEq,Qf,Qg,Qh]
       (repeat' (first | ((first | (refine xa0 ?_ ?_<;>intro q'<;>(have h':=q')<;>(try simp only [zz] at h')) | (have q':=trivial; first | refine xa3 (c2) rfl (by decide) ?_ | refine xa4 (c2) rfl ?_ | refine xb3 (c3) rfl (by decide) ?_ | refine xb2 (c3) rfl ?_ | refine hE _ _ xa5 ?_ | refine hE _ _ xa2 ?_))<;>(try simp (disch:=first | omega | decide +kernel) only [q',D.ints,go_sem,Qa,Qb,Qc,Qd,Qe,↓reduceIte,reduceCtorEq,Qf,Qg,Qh])<;>clear q') | refine hN _ ?_ ?_ Wk.kk | (with_reducible first | refine And.intro ?_ ?_ | omega) | exact xb8 | exact xa8 | exact xa6 | with_reducible exact xa7 | (refine xa1 ?_; omega) | (refine za9 ⟨?_,?_⟩) | (simp only [go_sem,Qc,Qb,zb1,zb2,forall_eq]; done)))
       all_goals (first | (rw [xz0 hlt (zt4 h')]; done) | (rw [xz0 hlt (zt3 (by omega))]; done) | exact xi8 hI (zt2 (by assumption) (by omega)))
     . simp (disch:=first | omega | decide +kernel) only [go_sem,Qa,Qb,Qc,Qd,Qe,↓reduceIte,reduceCtorEq,Qf,Qg,Qh]
       (repeat' (first | ((first | (refine xa0 ?_ ?_<;>intro q'<;>(have h':=q')<;>(try simp only [zz] at h')) | (have q':=trivial; first | refine hE _ _ xa5 ?_ | refine hE _ _ xa2 ?_))<;>(try simp (disch:=first | omega | decide +kernel) only [q',go_sem,Qa,Qb,Qc,Qd,Qe,↓reduceIte,reduceCtorEq,Qf,Qg,Qh])<;>clear q') | refine hN _ ?_ ?_ Wk.kk | (with_reducible first | refine And.intro ?_ ?_ | omega) | exact xb8 | exact xa8 | exact xa6 | with_reducible exact xa7 | (refine xa1 ?_; omega) | (refine za9 ⟨?_,?_⟩) | (simp only [go_sem,Qc,Qb,zb1,zb2,forall_eq]; done)))
       rw [yg6 hs hI' fun v hv => hI v (by omega)]
 . rw [ze6 hs]
   by_cases h1 : 1<=g.n∧g.n<=8
   . rw [decide_eq_true h1.1,decide_eq_true h1.2] at c1
     by_cases h2 : g.ed.length<=12
     . have h3 : ¬ (g.ch.length : Int)=g.n:=fun h3 => hs ⟨h1,h2,h3⟩
       simp (disch:=first | omega | decide +kernel) only [D.chg,D.ints,go_sem,Qa,Qb,Qc,Qd,Qe,↓reduceIte,reduceCtorEq,Qf,Qg,Qh]
       (repeat' (first | ((first | (refine xa0 ?_ ?_<;>intro q'<;>(have h':=q')<;>(try simp only [zz] at h')) | (have q':=trivial; first | refine xa3 (c1) rfl (by decide) ?_ | refine xa4 (c1) rfl ?_ | refine hE _ _ xa5 ?_ | refine hE _ _ xa2 ?_))<;>(try simp (disch:=first | omega | decide +kernel) only [q',D.chg,D.ints,go_sem,Qa,Qb,Qc,Qd,Qe,↓reduceIte,reduceCtorEq,Qf,Qg,Qh])<;>clear q') | refine hN _ ?_ ?_ Wk.kk | (with_reducible first | refine And.intro ?_ ?_ | omega) | exact xb8 | exact xa8 | exact xa6 | with_reducible exact xa7 | (refine xa1 ?_; omega) | (refine za9 ⟨?_,?_⟩) | (simp only [go_sem,Qc,Qb,zb1,zb2,forall_eq]; done)))
       all_goals (first | omega)
     . simp (disch:=first | omega | decide +kernel) only [D.chg,D.ints,go_sem,Qa,Qb,Qc,Qd,Qe,↓reduceIte,reduceCtorEq,Qf,Qg,Qh]
       (repeat' (first | ((first | (refine xa0 ?_ ?_<;>intro q'<;>(have h':=q')<;>(try simp only [zz] at h')) | (have q':=trivial; first | refine xa3 (c1) rfl (by decide) ?_ | refine xa4 (c1) rfl ?_ | refine hE _ _ xa5 ?_ | refine hE _ _ xa2 ?_))<;>(try simp (disch:=first | omega | decide +kernel) only [q',D.chg,D.ints,go_sem,Qa,Qb,Qc,Qd,Qe,↓reduceIte,reduceCtorEq,Qf,Qg,Qh])<;>clear q') | refine hN _ ?_ ?_ Wk.kk | (with_reducible first | refine And.intro ?_ ?_ | omega) | exact xb8 | exact xa8 | exact xa6 | with_reducible exact xa7 | (refine xa1 ?_; omega) | (refine za9 ⟨?_,?_⟩) | (simp only [go_sem,Qc,Qb,zb1,zb2,forall_eq]; done)))
       all_goals (first | omega)
   . have hb : (decide (1<=g.n) && decide (g.n<=8))=false:=by
      cases h4 : (decide (1<=g.n) && decide (g.n<=8)) with
      | false => rfl
      | true => simp only [Bc,decide_eq_true_eq] at h4; exact absurd h4 h1
     rw [hb] at c1
     simp (disch:=first | omega | decide +kernel) only [D.chg,D.ints,go_sem,Qa,Qb,Qc,Qd,Qe,↓reduceIte,reduceCtorEq,Qf,Qg,Qh]
     (repeat' (first | ((first | (refine xa0 ?_ ?_<;>intro q'<;>(have h':=q')<;>(try simp only [zz] at h')) | (have q':=trivial; first | refine xa3 (c1) rfl (by decide) ?_ | refine xa4 (c1) rfl ?_ | refine hE _ _ xa5 ?_ | refine hE _ _ xa2 ?_))<;>(try simp (disch:=first | omega | decide +kernel) only [q',D.chg,D.ints,go_sem,Qa,Qb,Qc,Qd,Qe,↓reduceIte,reduceCtorEq,Qf,Qg,Qh])<;>clear q') | refine hN _ ?_ ?_ Wk.kk | (with_reducible first | refine And.intro ?_ ?_ | omega) | exact xb8 | exact xa8 | exact xa6 | with_reducible exact xa7 | (refine xa1 ?_; omega) | (refine za9 ⟨?_,?_⟩) | (simp only [go_sem,Qc,Qb,zb1,zb2,forall_eq]; done)))
     all_goals (first | omega)
theorem edOk_1 {n : Int} {e : Int × Int} (h : (decide (0<=e.1) && decide (e.1<=n - 1))=false) : edOk n e=false:=by
 refine zf2 fun h' => ?_
 rw [decide_eq_true h'.1,decide_eq_true (by omega : e.1<=n - 1)] at h
 cases h
theorem edOk_2 {n : Int} {e : Int × Int} (h : (decide (0<=e.2) && decide (e.2<=n - 1))=false) : edOk n e=false:=by
 refine zf2 fun h' => ?_
 rw [decide_eq_true (by omega : 0<=e.2),decide_eq_true (by omega : e.2<=n - 1)] at h
 cases h
set_option maxHeartbeats 8000000 in
theorem xt1 (g : Chg) (hl : g.ed.length<=4294967296) (hc : g.ch.length<=4294967296) : Ctr Tryz.prog 40 [D.chg g] false (.d (.bool (xc7 g))) []:=by
 have c1:=xu5 g.n 1 8
 refine Ctr.of (n:=89) (rs:=[.tmp 2]) Tryz.func40 rfl rfl Tryz.ntmps40 rfl rfl (by kernel_rfl) Tryz.checked.mixed ?_
 by_cases hs : xl0 g
 . have hs':=hs
   obtain ⟨⟨s1,s2⟩,s3,s4⟩:=hs'
   rw [decide_eq_true s1,decide_eq_true s2] at c1
   simp (disch:=first | omega | decide +kernel) only [D.chg,D.ints,go_sem,Qa,Qb,Qc,Qd,Qe,↓reduceIte,reduceCtorEq,Qf,Qg,Qh]
   (repeat' (first | ((first | (refine xa0 ?_ ?_<;>intro q'<;>(have h':=q')<;>(try simp only [zz] at h')) | (have q':=trivial; first | refine xa3 (c1) rfl (by decide) ?_ | refine xa4 (c1) rfl ?_ | refine hE _ _ xa5 ?_ | refine hE _ _ xa2 ?_))<;>(try simp (disch:=first | omega | decide +kernel) only [q',D.chg,D.ints,go_sem,Qa,Qb,Qc,Qd,Qe,↓reduceIte,reduceCtorEq,Qf,Qg,Qh])<;>clear q') | refine hN _ ?_ ?_ Wk.kk | (with_reducible first | refine And.intro ?_ ?_ | omega) | exact xb8 | exact xa8 | exact xa6 | with_reducible exact xa7 | (refine xa1 ?_; omega) | (refine za9 ⟨?_,?_⟩) | (simp only [go_sem,Qc,Qb,zb1,zb2,forall_eq]; done)))
   refine Ok.loopC [68,67,66,65,64,63,62,61,60,59,58,57,56,55,54,53,52,51,50,49,48,47,46,45,44,43,42,41,40,39,38,37,36,35,34,33,32,31,30,29,28,27,26,25,24,23,3,2] (fun i => [(3,.d (.int .i64 (i : Nat)))]) g.ed.length (fun i => ∀ k,k < i->edOk g.n (g.ed.getD k (0,0))=true) (by simp) (Wk.kk) ?_
   intro R i hN hE hi hI
   by_cases hlt : i < g.ed.length
   . have c2:=xu5 (g.ed.getD i (0,0)).1 0 (g.n - 1)
     have c3:=xu5 (g.ed.getD i (0,0)).2 0 (g.n - 1)
     simp (disch:=first | omega | decide +kernel) only [xg3,xl9,xm9,xd0,go_sem,Qa,Qb,Qc,Qd,Qe,↓reduceIte,reduceCtorEq,Qf,Qg,Qh]
     (repeat' (first | ((first | (refine xa0 ?_ ?_<;>intro q'<;>(have h':=q')<;>(try simp only [zz] at h')) | (have q':=trivial; first | refine xa3 (c2) rfl (by decide) ?_ | refine xa4 (c2) rfl ?_ | refine xa3 (c3) rfl (by decide) ?_ | refine xa4 (c3) rfl ?_ | refine hE _ _ xa5 ?_ | refine hE _ _ xa2 ?_))<;>(try simp (disch:=first | omega | decide +kernel) only [q',xg3,xl9,xm9,xd0,go_sem,Qa,Qb,Qc,Qd,Qe,↓reduceIte,reduceCtorEq,Qf,Qg,Qh])<;>clear q') | refine hN _ ?_ ?_ Wk.kk | (with_reducible first | refine And.intro ?_ ?_ | omega) | exact xb8 | exact xa8 | exact xa6 | with_reducible exact xa7 | (refine xa1 ?_; omega) | (refine za9 ⟨?_,?_⟩) | (simp only [go_sem,Qc,Qb,zb1,zb2,forall_eq]; done)))
     all_goals (first | (rw [xt4 hlt (edOk_1 h')]; done) | (rw [xt4 hlt (edOk_2 h')]; done) | (rw [xt4 hlt (zf2 (by omega))]; done) | (exact xi8 hI (zs5 (by omega))))
   . have hI' : ∀ k,k < g.ed.length->edOk g.n (g.ed.getD k (0,0))=true:=fun k hk => hI k (by omega)
     simp (disch:=first | omega | decide +kernel) only [go_sem,Qa,Qb,Qc,Qd,Qe,↓reduceIte,reduceCtorEq,Qf,Qg,Qh]
     (repeat' (first | ((first | (refine xa0 ?_ ?_<;>intro q'<;>(have h':=q')<;>(try simp only [zz] at h')) | (have q':=trivial; first | refine hE _ _ xa5 ?_ | refine hE _ _ xa2 ?_))<;>(try simp (disch:=first | omega | decide +kernel) only [q',go_sem,Qa,Qb,Qc,Qd,Qe,↓reduceIte,reduceCtorEq,Qf,Qg,Qh])<;>clear q') | refine hN _ ?_ ?_ Wk.kk | (with_reducible first | refine And.intro ?_ ?_ | omega) | exact xb8 | exact xa8 | exact xa6 | with_reducible exact xa7 | (refine xa1 ?_; omega) | (refine za9 ⟨?_,?_⟩) | (simp only [go_sem,Qc,Qb,zb1,zb2,forall_eq]; done)))
     have hnn : g.n=(g.ch.length : Nat):=s4.symm
     refine Ok.loopC [88,87,86,85,84,83,82,81,80,79,78,77,76,75,74,73,72,71,70,69,4,2] (fun i => [(4,.d (.int .i64 (i : Nat)))]) g.ch.length (fun i => ∀ v,v < i->chOk g v=true) (by simp) (Wk.kk) ?_
     clear hN hE hi hI
     intro R i hN hE hi hI
     by_cases hlt : i < g.ch.length
     . have c2:=xu5 (g.ch.getD i 0) 0 1
       have c3:=Ctr.data1 (ye0 g i hl)
       have hle:=xg4 g i g.ed.length
       change (xb0 g i).length<=_ at hle
       change Ctr _ _ [.agg [.int .i64 g.n,.slice (g.ed.map D.ed),.slice (g.ch.map (.int .i64))],_] _ _ _ at c3
       simp (disch:=first | omega | decide +kernel) only [D.ints,go_sem,Qa,Qb,Qc,Qd,Qe,↓reduceIte,reduceCtorEq,Qf,Qg,Qh]
       (repeat' (first | ((first | (refine xa0 ?_ ?_<;>intro q'<;>(have h':=q')<;>(try simp only [zz] at h')) | (have q':=trivial; first | refine xa3 (c2) rfl (by decide) ?_ | refine xa4 (c2) rfl ?_ | refine xb3 (c3) rfl (by decide) ?_ | refine xb2 (c3) rfl ?_ | refine hE _ _ xa5 ?_ | refine hE _ _ xa2 ?_))<;>(try simp (disch:=first | omega | decide +kernel) only [q',D.ints,go_sem,Qa,Qb,Qc,Qd,Qe,↓reduceIte,reduceCtorEq,Qf,Qg,Qh])<;>clear q') | refine hN _ ?_ ?_ Wk.kk | (with_reducible first | refine And.intro ?_ ?_ | omega) | exact xb8 | exact xa8 | exact xa6 | with_reducible exact xa7 | (refine xa1 ?_; omega) | (refine za9 ⟨?_,?_⟩) | (simp only [go_sem,Qc,Qb,zb1,zb2,forall_eq]; done)))
       all_goals (first | (rw [xz0 hlt (zt4 h')]; done) | (rw [xz0 hlt (zt3 (by omega))]; done) | exact xi8 hI (zt2 (by assumption) (by omega)))
     . simp (disch:=first | omega | decide +kernel) only [go_sem,Qa,Qb,Qc,Qd,Qe,↓reduceIte,reduceCtorEq,Qf,Qg,Qh]
       (repeat' (first | ((first | (refine xa0 ?_ ?_<;>intro q'<;>(have h':=q')<;>(try simp only [zz] at h')) | (have q':=trivial; first | refine hE _ _ xa5 ?_ | refine hE _ _ xa2 ?_))<;>(try simp (disch:=first | omega | decide +kernel) only [q',go_sem,Qa,Qb,Qc,Qd,Qe,↓reduceIte,reduceCtorEq,Qf,Qg,Qh])<;>clear q') | refine hN _ ?_ ?_ Wk.kk | (with_reducible first | refine And.intro ?_ ?_ | omega) | exact xb8 | exact xa8 | exact xa6 | with_reducible exact xa7 | (refine xa1 ?_; omega) | (refine za9 ⟨?_,?_⟩) | (simp only [go_sem,Qc,Qb,zb1,zb2,forall_eq]; done)))
       all_goals (first | (rw [yg6 hs hI' fun v hv => hI v (by omega)]; done) | omega)
 . rw [ze6 hs]
   by_cases h1 : 1<=g.n∧g.n<=8
   . rw [decide_eq_true h1.1,decide_eq_true h1.2] at c1
     by_cases h2 : g.ed.length<=12
     . have h3 : ¬ (g.ch.length : Int)=g.n:=fun h3 => hs ⟨h1,h2,h3⟩
       simp (disch:=first | omega | decide +kernel) only [D.chg,D.ints,go_sem,Qa,Qb,Qc,Qd,Qe,↓reduceIte,reduceCtorEq,Qf,Qg,Qh]
       (repeat' (first | ((first | (refine xa0 ?_ ?_<;>intro q'<;>(have h':=q')<;>(try simp only [zz] at h')) | (have q':=trivial; first | refine xa3 (c1) rfl (by decide) ?_ | refine xa4 (c1) rfl ?_ | refine hE _ _ xa5 ?_ | refine hE _ _ xa2 ?_))<;>(try simp (disch:=first | omega | decide +kernel) only [q',D.chg,D.ints,go_sem,Qa,Qb,Qc,Qd,Qe,↓reduceIte,reduceCtorEq,Qf,Qg,Qh])<;>clear q') | refine hN _ ?_ ?_ Wk.kk | (with_reducible first | refine And.intro ?_ ?_ | omega) | exact xb8 | exact xa8 | exact xa6 | with_reducible exact xa7 | (refine xa1 ?_; omega) | (refine za9 ⟨?_,?_⟩) | (simp only [go_sem,Qc,Qb,zb1,zb2,forall_eq]; done)))
       all_goals (first | omega)
     . simp (disch:=first | omega | decide +kernel) only [D.chg,D.ints,go_sem,Qa,Qb,Qc,Qd,Qe,↓reduceIte,reduceCtorEq,Qf,Qg,Qh]
       (repeat' (first | ((first | (refine xa0 ?_ ?_<;>intro q'<;>(have h':=q')<;>(try simp only [zz] at h')) | (have q':=trivial; first | refine xa3 (c1) rfl (by decide) ?_ | refine xa4 (c1) rfl ?_ | refine hE _ _ xa5 ?_ | refine hE _ _ xa2 ?_))<;>(try simp (disch:=first | omega | decide +kernel) only [q',D.chg,D.ints,go_sem,Qa,Qb,Qc,Qd,Qe,↓reduceIte,reduceCtorEq,Qf,Qg,Qh])<;>clear q') | refine hN _ ?_ ?_ Wk.kk | (with_reducible first | refine And.intro ?_ ?_ | omega) | exact xb8 | exact xa8 | exact xa6 | with_reducible exact xa7 | (refine xa1 ?_; omega) | (refine za9 ⟨?_,?_⟩) | (simp only [go_sem,Qc,Qb,zb1,zb2,forall_eq]; done)))
       all_goals (first | omega)
   . have hb : (decide (1<=g.n) && decide (g.n<=8))=false:=by
      cases h4 : (decide (1<=g.n) && decide (g.n<=8)) with
      | false => rfl
      | true => simp only [Bc,decide_eq_true_eq] at h4; exact absurd h4 h1
     rw [hb] at c1
     simp (disch:=first | omega | decide +kernel) only [D.chg,D.ints,go_sem,Qa,Qb,Qc,Qd,Qe,↓reduceIte,reduceCtorEq,Qf,Qg,Qh]
     (repeat' (first | ((first | (refine xa0 ?_ ?_<;>intro q'<;>(have h':=q')<;>(try simp only [zz] at h')) | (have q':=trivial; first | refine xa3 (c1) rfl (by decide) ?_ | refine xa4 (c1) rfl ?_ | refine hE _ _ xa5 ?_ | refine hE _ _ xa2 ?_))<;>(try simp (disch:=first | omega | decide +kernel) only [q',D.chg,D.ints,go_sem,Qa,Qb,Qc,Qd,Qe,↓reduceIte,reduceCtorEq,Qf,Qg,Qh])<;>clear q') | refine hN _ ?_ ?_ Wk.kk | (with_reducible first | refine And.intro ?_ ?_ | omega) | exact xb8 | exact xa8 | exact xa6 | with_reducible exact xa7 | (refine xa1 ?_; omega) | (refine za9 ⟨?_,?_⟩) | (simp only [go_sem,Qc,Qb,zb1,zb2,forall_eq]; done)))
     all_goals (first | omega)
end Abs.Y

namespace Abs.Y
open Go Go.Proofs Abs
open Nat renaming reduceEqDiff -> Qa, reduceLT -> Qb, reduceAdd -> Qc, reduceMul -> Qd, reduceSub -> Qe, reduceLeDiff -> Qf, reduceSubDiff -> Qg, reduceBEq -> Qh
open Bool renaming not_eq_true' -> Ba, not_eq_false' -> Bb, and_eq_true -> Bc, or_eq_true -> Bh, or_eq_false_iff -> Be
open Int renaming ofNat_lt -> Ia, ofNat_le -> Ib, not_lt -> Ic, not_le -> Ie
open Decidable renaming not_not -> Da
set_option maxRecDepth 100000

def other (g : Chg) (now k : Int) : Int:=(g.ed.getD k.toNat (0,0)).1 + (g.ed.getD k.toNat (0,0)).2 - now
def hasV (out : List (Int × Int)) (x : Int) : Bool:=out.any fun r => decide (r.1=x)
def xz8 (g : Chg) (now : Int) (out : List (Int × Int)) (k : Int) : List (Int × Int):=if hasV out (other g now k)=true then out else out++[(other g now k,k)]
def xp8 (g : Chg) (now : Int) (ks : List Int) (out : List (Int × Int)) : List (Int × Int):=ks.foldl (xz8 g now) out
def zo8 (g : Chg) (out : List (Int × Int)) (i : Nat) : List (Int × Int):=xp8 g (out.getD i (0,0)).1 (xb0 g (out.getD i (0,0)).1) out
def xv4 (g : Chg) : Nat->Nat->List (Int × Int)->List (Int × Int)
 | 0,_,out => out
 | f + 1,i,out => if i < out.length then xv4 g f (i + 1) (zo8 g out i) else out
def xh0 (g : Chg) (v : Int) : List (Int × Int):=xv4 g 9 0 [(v,-1)]
structure LinOk (g : Chg) (out : List (Int × Int)) : Prop where
 nd : (out.map (·.1)).Nodup
 vx : ∀ r ∈ out,0<=r.1∧r.1 < g.n
 ed : ∀ r ∈ out,r.2=-1∨(0<=r.2∧r.2.toNat < g.ed.length)
 n8 : g.n<=8
theorem zm5 {out : List (Int × Int)} {x : Int} : hasV out x=true↔x ∈ out.map (·.1):=by
 simp [hasV,List.any_eq_true]
theorem LinOk.len {g : Chg} {out : List (Int × Int)} (h : LinOk g out) : out.length<=8:=by
 have h1 : (out.map (·.1)) ⊆ (List.range 8).map fun (i : Nat) => (i : Int):=fun x hx => by
  obtain ⟨r,hr,rfl⟩:=List.mem_map.1 hx
  have h2:=h.vx r hr
  have h3:=h.n8
  exact List.mem_map.2 ⟨r.1.toNat,List.mem_range.2 (by omega),by omega⟩
 have:=h.nd.length_le_of_subset h1
 simpa using this
theorem other_ok {g : Chg} (hg : xc7 g=true) {now k : Int} (hk : k ∈ xb0 g now) : 0<=other g now k∧other g now k < g.n:=by
 obtain ⟨h1,h2,h3⟩:=xk2 hk
 have h4:=(xd4 hg).2.1 _ h2
 simp only [edOk,decide_eq_true_eq] at h4
 unfold other
 rcases h3 with h3 | h3<;>omega
theorem grow1_ok {g : Chg} (hg : xc7 g=true) {now k : Int} (hk : k ∈ xb0 g now) {out : List (Int × Int)} (h : LinOk g out) : LinOk g (xz8 g now out k):=by
 unfold xz8
 split
 . exact h
 . rename_i hn
   have ho:=other_ok hg hk
   have hm:=xk2 hk
   rw [zm5] at hn
   refine ⟨?_,fun r hr => ?_,fun r hr => ?_,h.n8⟩
   . rw [List.map_append,List.nodup_append]
     refine ⟨h.nd,by simp,fun a ha b hb e => ?_⟩
     simp only [List.map_cons,List.map_nil,List.mem_singleton] at hb
     subst hb; subst e
     exact hn ha
   . rcases List.mem_append.1 hr with hr | hr
     . exact h.vx r hr
     . rw [List.mem_singleton.1 hr]; exact ho
   . rcases List.mem_append.1 hr with hr | hr
     . exact h.ed r hr
     . rw [List.mem_singleton.1 hr]; exact .inr ⟨hm.1,hm.2.1⟩
theorem xu8 {g : Chg} (hg : xc7 g=true) {now : Int} : ∀ {ks : List Int} {out : List (Int × Int)},(∀ k ∈ ks,k ∈ xb0 g now)->LinOk g out->LinOk g (xp8 g now ks out)
 | [],out,_,h => h
 | k :: r,out,hk,h => xu8 (ks:=r) hg (fun k' h' => hk k' (by simp [h'])) (grow1_ok hg (hk k (by simp)) h)
theorem ze5 {g : Chg} {now k : Int} {out : List (Int × Int)} : out <+: xz8 g now out k:=by
 unfold xz8; split
 . exact List.prefix_rfl
 . exact List.prefix_append _ _
theorem xt3 {g : Chg} {now : Int} : ∀ {ks : List Int} {out : List (Int × Int)},out <+: xp8 g now ks out
 | [],out => List.prefix_rfl
 | k :: r,out => ze5.trans (xt3 (ks:=r))
theorem yd9 {g : Chg} (hg : xc7 g=true) {v : Int} (hv : 0<=v∧v < g.n) : LinOk g [(v,-1)] :=
 ⟨by simp,fun r hr => by rw [List.mem_singleton.1 hr]; exact hv,fun r hr => by rw [List.mem_singleton.1 hr]; exact .inl rfl,(xd4 hg).1.1.2⟩
theorem line1_ok (r : Int × Int) (x : Int) : Ctr Tryz.prog 123 [D.ed r,.ptr (.int .i64 x)] false (.d (.bool (decide (r.1=x)))) []:=by
 refine Ctr.of (n:=8) (rs:=[.tmp 3]) Tryz.func123 rfl rfl Tryz.ntmps123 rfl rfl (by kernel_rfl) Tryz.checked.mixed ?_
 simp (disch:=first | omega | decide +kernel) only [D.ed,go_sem,Qa,Qb,Qc,Qd,Qe,↓reduceIte,reduceCtorEq,Qf,Qg,Qh]
 (repeat' (first | ((first | (refine xa0 ?_ ?_<;>intro q'<;>(have h':=q')<;>(try simp only [zz] at h')<;>try (exfalso; omega)) | (have q':=trivial; first | refine hE _ _ xa5 ?_ | refine hE _ _ xa2 ?_))<;>(try simp (disch:=first | omega | decide +kernel) only [q',go_sem,Qa,Qb,Qc,Qd,Qe,↓reduceIte,reduceCtorEq,Qf,Qg,Qh])<;>clear q') | (with_reducible first | refine And.intro ?_ ?_ | omega) | (refine xa1 ?_; omega)))
 congr 1
theorem indexFuncR_ok (l : List (Int × Int)) (x : Int) (hl : l.length<=1048576) :
 Ctr Tryz.prog 140 [.slice (l.map D.ed),.fn (.func 123) [] [.ptr (.int .i64 x)]] false (.d (.int .i64 (idxR (fun j => decide ((l.getD j (0,0)).1=x)) l.length))) []:=by
 refine Ctr.of (n:=19) (rs:=[.tmp 4]) Tryz.func140 rfl rfl Tryz.ntmps140 rfl rfl (by kernel_rfl) Tryz.checked.mixed ?_
 simp (disch:=first | omega | decide +kernel) only [go_sem,Qa,Qb,Qc,Qd,Qe,↓reduceIte,reduceCtorEq,Qf,Qg,Qh]
 refine Ok.loopC [18,17,16,15,14,13,12,11,10,9,8,6,5,4,3,2] (fun i => [(8,.d (.int .i64 (i : Nat)))]) l.length (fun i => ∀ j,j < i->decide ((l.getD j (0,0)).1=x)=false) (by simp) (Wk.kk) ?_
 intro R i hN hE hi hI
 by_cases hlt : i < l.length
 . have hpi:=line1_ok (l.getD i (0,0)) x
   generalize hsd : l.getD i (0,0)=s at *
   simp (disch:=first | omega | decide +kernel) only [xg3,hsd,go_sem,Qa,Qb,Qc,Qd,Qe,↓reduceIte,reduceCtorEq,Qf,Qg,Qh]
   (repeat' (first | ((first | (refine xa0 ?_ ?_<;>intro q'<;>(have h':=q')<;>(try simp only [zz] at h')) | (have q':=trivial; first | refine xa3 (hpi) rfl (by decide) ?_ | refine xa4 (hpi) rfl ?_ | refine hE _ _ xa5 ?_ | refine hE _ _ xa2 ?_))<;>(try simp (disch:=first | omega | decide +kernel) only [q',xg3,hsd,D.ed,go_sem,Qa,Qb,Qc,Qd,Qe,↓reduceIte,reduceCtorEq,Qf,Qg,Qh])<;>clear q') | refine hN _ ?_ ?_ Wk.kk | (with_reducible first | refine And.intro ?_ ?_ | omega) | exact xb8 | exact xa8 | exact xa6 | with_reducible exact xa7 | (refine xa1 ?_; omega) | (refine za9 ⟨?_,?_⟩) | (simp only [go_sem,Qc,Qb,zb1,zb2,forall_eq]; done)))
   . rw [idxR_some hlt (by rw [hsd]; exact decide_eq_true (by assumption)) hI]
   . exact xi8 hI (by rw [hsd]; exact decide_eq_false (by assumption))
 . simp (disch:=first | omega | decide +kernel) only [go_sem,Qa,Qb,Qc,Qd,Qe,↓reduceIte,reduceCtorEq,Qf,Qg,Qh]
   (repeat' (first | ((first | (refine xa0 ?_ ?_<;>intro q'<;>(have h':=q')<;>(try simp only [zz] at h')<;>try (exfalso; omega)) | (have q':=trivial; first | refine hE _ _ xa5 ?_ | refine hE _ _ xa2 ?_))<;>(try simp (disch:=first | omega | decide +kernel) only [q',go_sem,Qa,Qb,Qc,Qd,Qe,↓reduceIte,reduceCtorEq,Qf,Qg,Qh])<;>clear q') | (with_reducible first | refine And.intro ?_ ?_ | omega) | (refine xa1 ?_; omega)))
   rw [zd8 fun j hj => hI j (by omega)]
theorem hasV_idx (l : List (Int × Int)) (x : Int) : decide (0<=idxR (fun j => decide ((l.getD j (0,0)).1=x)) l.length)=hasV l x:=by
 by_cases h : ∃ j,j < l.length∧decide ((l.getD j (0,0)).1=x)=true
 . obtain ⟨j,hj,hp⟩:=h
   have h1 : hasV l x=true:=any_true (z:=(0,0)) hj hp
   rw [h1]
   unfold idxR
   cases hf : (List.range l.length).find? fun j => decide ((l.getD j (0,0)).1=x) with
   | some k => simp
   | none => rw [List.find?_range_eq_none] at hf; exact absurd hp (by simpa using hf j hj)
 . have h2 : ∀ j,j < l.length->decide ((l.getD j (0,0)).1=x)=false:=fun j hj => by
    cases hb : decide ((l.getD j (0,0)).1=x) with
    | false => rfl
    | true => exact absurd ⟨j,hj,hb⟩ h
   rw [zd8 h2,show hasV l x=false from any_false (z:=(0,0)) h2]; rfl
theorem containsFuncR_ok (l : List (Int × Int)) (x : Int) (hl : l.length<=1048576) :
 Ctr Tryz.prog 122 [.slice (l.map D.ed),.fn (.func 123) [] [.ptr (.int .i64 x)]] false (.d (.bool (hasV l x))) []:=by
 have c1:=indexFuncR_ok l x hl
 rw [← hasV_idx]
 refine Ctr.of (n:=9) (rs:=[.tmp 4]) Tryz.func122 rfl rfl Tryz.ntmps122 rfl rfl (by kernel_rfl) Tryz.checked.mixed ?_
 simp (disch:=first | omega | decide +kernel) only [go_sem,Qa,Qb,Qc,Qd,Qe,↓reduceIte,reduceCtorEq,Qf,Qg,Qh]
 (repeat' (first | ((first | (refine xa0 ?_ ?_<;>intro q'<;>(have h':=q')<;>(try simp only [zz] at h')<;>try (exfalso; omega)) | (have q':=trivial; first | refine xa3 (c1) rfl (by decide) ?_ | refine xa4 (c1) rfl ?_ | refine hE _ _ xa5 ?_ | refine hE _ _ xa2 ?_))<;>(try simp (disch:=first | omega | decide +kernel) only [q',go_sem,Qa,Qb,Qc,Qd,Qe,↓reduceIte,reduceCtorEq,Qf,Qg,Qh])<;>clear q') | (with_reducible first | refine And.intro ?_ ?_ | omega) | (refine xa1 ?_; omega)))
end Abs.Y

namespace Abs.Y
open Go Go.Proofs Abs
open Nat renaming reduceEqDiff -> Qa, reduceLT -> Qb, reduceAdd -> Qc, reduceMul -> Qd, reduceSub -> Qe, reduceLeDiff -> Qf, reduceSubDiff -> Qg, reduceBEq -> Qh
open Bool renaming not_eq_true' -> Ba, not_eq_false' -> Bb, and_eq_true -> Bc, or_eq_true -> Bh, or_eq_false_iff -> Be
open Int renaming ofNat_lt -> Ia, ofNat_le -> Ib, not_lt -> Ic, not_le -> Ie
open Decidable renaming not_not -> Da
set_option maxRecDepth 100000

theorem yu3 {g : Chg} {f i : Nat} {out : List (Int × Int)} (h : i < out.length) : xv4 g (f + 1) i out=xv4 g f (i + 1) (zo8 g out i):=by rw [xv4,if_pos h]
theorem zd0 {g : Chg} {f i : Nat} {out : List (Int × Int)} (h : ¬ i < out.length) : xv4 g f i out=out:=by
 cases f with
 | zero => rfl
 | succ f => rw [xv4,if_neg h]
theorem plain_eds {xs : List (Int × Int)} : ∀ y ∈ xs.map D.ed,y.plain=true:=fun y hy => by
 obtain ⟨e,_,rfl⟩:=List.mem_map.1 hy; rfl
structure Edg (g : Chg) (now k : Int) : Prop where
 k0 : 0<=k
 kl : k.toNat < g.ed.length
 a0 : 0<=(g.ed.getD k.toNat (0,0)).1
 a1 : (g.ed.getD k.toNat (0,0)).1<=7
 b0 : 0<=(g.ed.getD k.toNat (0,0)).2
 b1 : (g.ed.getD k.toNat (0,0)).2<=7
theorem zw8 {g : Chg} (hg : xc7 g=true) {now k : Int} (hk : k ∈ xb0 g now) : Edg g now k:=by
 obtain ⟨h1,h2,h3⟩:=xk2 hk
 have h4:=(xd4 hg).2.1 _ h2
 have h5:=(xd4 hg).1.1.2
 simp only [edOk,decide_eq_true_eq] at h4
 exact ⟨h1,h2,by omega,by omega,by omega,by omega⟩
set_option maxHeartbeats 8000000 in
theorem line_ok (g : Chg) (v : Int) (hg : xc7 g=true) (hv : 0<=v∧v < g.n) :
 Ctr Tryz.prog 85 [D.chg g,.int .i64 v] false (.sl 0) [(0,.arr 76 2 ((xh0 g v).map D.ed))]:=by
 have hs:=(xd4 hg).1
 have hn8:=hs.1.2
 have hed:=hs.2.1
 refine Ctr.of (n:=60) (rs:=[.tmp 4]) Tryz.func85 rfl rfl Tryz.ntmps85 rfl rfl (by kernel_rfl) Tryz.checked.mixed ?_
 simp (disch:=first | omega | decide +kernel) only [D.chg,D.ints,go_sem,Qa,Qb,Qc,Qd,Qe,↓reduceIte,reduceCtorEq,Qf,Qg,Qh]
 (repeat' (first | ((first | (refine xa0 ?_ ?_<;>intro q'<;>(have h':=q')<;>(try simp only [zz] at h')<;>try (exfalso; omega)) | (have q':=trivial; first | refine hE _ _ xa5 ?_ | refine hE _ _ xa2 ?_))<;>(try simp (disch:=first | omega | decide +kernel) only [q',go_sem,Qa,Qb,Qc,Qd,Qe,↓reduceIte,reduceCtorEq,Qf,Qg,Qh])<;>clear q') | (with_reducible first | refine And.intro ?_ ?_ | omega) | exact xa6 | (refine xa1 ?_; omega) | (refine za9 ⟨?_,?_⟩) | (simp only [go_sem,Qc,Qb,zb1,zb2,forall_eq]; done)))
 refine Ok.loopU [58,57,56,55,54,53,52,51,50,49,48,47,46,45,44,43,42,41,40,39,38,37,36,35,34,33,32,31,30,29,28,27,26,25,24,23,22,21,20,19,18,17,16,15,14,13,12,11,10,9,8,7,6,5,3,1,0] (fun (p : Nat × List (Int × Int)) => [(6,.d (.int .i64 (p.1 : Nat))),(5,.sl 13)]) (fun p => [(13,.arr 76 2 (p.2.map D.ed))])
  (fun n p => n + p.1=9∧LinOk g p.2∧p.1<=p.2.length∧xv4 g n p.1 p.2=xh0 g v) 9 (0,[(v,-1)]) ⟨by simp,yd9 hg hv,by simp,rfl⟩ (by refine Wk.auto ?_ ?_<;>simp [xb1,lk,killL,St.kill,xb4,xb6,AV.has,AV.hasL,AO.wipe,List.map_set,xc2,insL,xc4,ins,D.ed]) ?_
 rintro R n ⟨i,out⟩ hN hE ⟨hni,hlo,hil,hfl⟩
 simp only at hni hlo hil hfl
 have hol:=hlo.len
 by_cases hlt : i < out.length
 . obtain ⟨m,rfl⟩ : ∃ m,n=m + 1:=⟨n - 1,by omega⟩
   rw [yu3 hlt] at hfl
   have hvx:=hlo.vx _ (xc0 (z:=((0 : Int),(0 : Int))) hlt)
   unfold zo8 at hfl
   generalize hnow : (out.getD i (0,0)).1=now at *
   have c1:=zv1 g now (by omega)
   have hle:=xg4 g now g.ed.length
   change (xb0 g now).length<=_ at hle
   simp (disch:=first | omega | decide +kernel) only [xg3,hnow,go_sem,Qa,Qb,Qc,Qd,Qe,↓reduceIte,reduceCtorEq,Qf,Qg,Qh]
   (repeat' (first | ((first | (refine xa0 ?_ ?_<;>intro q'<;>(have h':=q')<;>(try simp only [zz] at h')<;>try (exfalso; omega)) | (have q':=trivial; first | refine xa3 (c1) rfl (by decide) ?_ | refine xa4 (c1) rfl ?_ | refine hE _ _ xa5 ?_ | refine hE _ _ xa2 ?_))<;>(try simp (disch:=first | omega | decide +kernel) only [q',xg3,hnow,D.chg,D.ints,go_sem,Qa,Qb,Qc,Qd,Qe,↓reduceIte,reduceCtorEq,Qf,Qg,Qh])<;>clear q') | (with_reducible first | refine And.intro ?_ ?_ | omega) | (refine xa1 ?_; omega)))
   have hgl : LinOk g (xp8 g now (xb0 g now) out):=xu8 hg (fun k h => h) hlo
   have hpl:=(xt3 (g:=g) (now:=now) (ks:=xb0 g now) (out:=out)).length_le
   have hed':=fun k (hk : k ∈ xb0 g now) => zw8 hg hk
   have hgr:=fun ks (hk : ∀ k ∈ ks,k ∈ xb0 g now) => xu8 hg hk hlo
   clear c1
   generalize xb0 g now=ks at *
   refine Ok.loopN [58,57,56,55,54,53,52,51,50,49,48,47,46,45,44,43,42,41,40,39,38,37,36,35,34,33,32,31,30,29,23,22,20,15,13,12,11,10,9,8,5,3,1,0] (fun j _ => [(29,.d (.int .i64 (j : Nat))),(5,.sl 13)]) (fun _ (cur : List (Int × Int)) => [(13,.arr 76 2 (cur.map D.ed))]) ks.length
    (fun j cur => cur=xp8 g now (ks.take j) out) out (by simp [xp8]) (Wk.kk) ?_
   rintro R2 j cur hN2 hE hj rfl
   by_cases hjl : j < ks.length
   . have hkm : ks.getD j 0 ∈ ks:=xc0 hjl
     have hlc:=hgr (ks.take j) fun k h => List.mem_of_mem_take h
     have hcl:=hlc.len
     have hsu : xp8 g now (ks.take (j + 1)) out=xz8 g now (xp8 g now (ks.take j) out) (ks.getD j 0):=by rw [xf7 0 ks j hjl]; simp [xp8]
     obtain ⟨k0,kl,a0,a1,b0,b1⟩:=hed' _ hkm
     generalize hkj : ks.getD j 0=k at *
     generalize xp8 g now (ks.take j) out=cur at *
     have c2:=containsFuncR_ok cur (other g now k) (by omega)
     cases hb : hasV cur (other g now k) with
     | true =>
       rw [hb] at c2
       unfold xz8 at hsu
       rw [hb,if_pos rfl] at hsu
       unfold other at c2
       simp (disch:=first | omega | decide +kernel) only [xg3,hkj,xl9,xm9,xd0,List.getElem?_cons_succ,List.getElem?_cons_zero,go_sem,Qa,Qb,Qc,Qd,Qe,↓reduceIte,reduceCtorEq,Qf,Qg,Qh]
       (repeat' (first | ((first | (refine xa0 ?_ ?_<;>intro q'<;>(have h':=q')<;>(try simp only [zz] at h')) | (have q':=trivial; first | refine xa3 (c2) rfl (by decide) ?_ | refine xa4 (c2) rfl ?_ | refine hE _ _ xa5 ?_ | refine hE _ _ xa2 ?_))<;>(try simp (disch:=first | omega | decide +kernel) only [q',xg3,hkj,xl9,xm9,xd0,List.getElem?_cons_succ,List.getElem?_cons_zero,go_sem,Qa,Qb,Qc,Qd,Qe,↓reduceIte,reduceCtorEq,Qf,Qg,Qh])<;>clear q') | refine hN _ ?_ ?_ Wk.kk | (with_reducible first | refine And.intro ?_ ?_ | omega) | exact xb8 | exact xa8 | exact xa6 | with_reducible exact xa7 | (refine xa1 ?_; omega) | (refine za9 ⟨?_,?_⟩) | (simp only [go_sem,Qc,Qb,zb1,zb2,forall_eq]; done)))
       refine hN2 cur _ hjl hsu.symm (by refine Wk.auto ?_ ?_<;>simp [xb1,lk,killL,St.kill,xb4,xb6,AV.has,AV.hasL,AO.wipe,List.map_set,xc2,insL,xc4,ins,])
     | false =>
       rw [hb] at c2
       unfold xz8 at hsu
       rw [hb,if_neg (by simp)] at hsu
       unfold other at c2 hsu
       simp (disch:=first | omega | decide +kernel) only [xg3,hkj,xl9,xm9,xd0,List.getElem?_cons_succ,List.getElem?_cons_zero,go_sem,Qa,Qb,Qc,Qd,Qe,↓reduceIte,reduceCtorEq,Qf,Qg,Qh]
       (repeat' (first | ((first | (refine xa0 ?_ ?_<;>intro q'<;>(have h':=q')<;>(try simp only [zz] at h')) | (have q':=trivial; first | refine xa3 (c2) rfl (by decide) ?_ | refine xa4 (c2) rfl ?_ | refine hE _ _ xa5 ?_ | refine hE _ _ xa2 ?_))<;>(try simp (disch:=first | omega | decide +kernel) only [q',xg3,hkj,xl9,xm9,xd0,List.getElem?_cons_succ,List.getElem?_cons_zero,go_sem,Qa,Qb,Qc,Qd,Qe,↓reduceIte,reduceCtorEq,Qf,Qg,Qh])<;>clear q') | refine hN _ ?_ ?_ Wk.kk | (with_reducible first | refine And.intro ?_ ?_ | omega) | exact xb8 | exact xa8 | exact xa6 | with_reducible exact xa7 | (refine xa1 ?_; omega) | (refine za9 ⟨?_,?_⟩) | (simp only [go_sem,Qc,Qb,zb1,zb2,forall_eq]; done)))
       . exact ⟨rfl,fun c hc => by simp only [D.cells,List.mem_cons,List.not_mem_nil,or_false] at hc; rcases hc with rfl | rfl<;>rfl⟩
       . refine hN2 _ _ hjl hsu.symm (by refine Wk.auto ?_ ?_<;>simp [xb1,lk,killL,St.kill,xb4,xb6,AV.has,AV.hasL,AO.wipe,List.map_set,xc2,insL,xc4,ins,D.ed])
   . obtain rfl : j=ks.length:=by omega
     rw [List.take_length]
     simp (disch:=first | omega | decide +kernel) only [go_sem,Qa,Qb,Qc,Qd,Qe,↓reduceIte,reduceCtorEq,Qf,Qg,Qh]
     (repeat' (first | ((first | (refine xa0 ?_ ?_<;>intro q'<;>(have h':=q')<;>(try simp only [zz] at h')<;>try (exfalso; omega)) | (have q':=trivial; first | refine hE _ _ xa5 ?_ | refine hE _ _ xa2 ?_))<;>(try simp (disch:=first | omega | decide +kernel) only [q',go_sem,Qa,Qb,Qc,Qd,Qe,↓reduceIte,reduceCtorEq,Qf,Qg,Qh])<;>clear q') | (with_reducible first | refine And.intro ?_ ?_ | omega) | (refine xa1 ?_; omega)))
     refine hN m (i + 1,xp8 g now ks out) _ (by omega) ⟨by simp only; omega,hgl,by simp only; omega,hfl⟩ (by refine Wk.auto ?_ ?_<;>simp [xb1,lk,killL,St.kill,xb4,xb6,AV.has,AV.hasL,AO.wipe,List.map_set,xc2,insL,xc4,ins,])
 . rw [zd0 hlt] at hfl
   simp (disch:=first | omega | decide +kernel) only [go_sem,Qa,Qb,Qc,Qd,Qe,↓reduceIte,reduceCtorEq,Qf,Qg,Qh]
   (repeat' (first | ((first | (refine xa0 ?_ ?_<;>intro q'<;>(have h':=q')<;>(try simp only [zz] at h')<;>try (exfalso; omega)) | (have q':=trivial; first | refine hE _ _ xa5 ?_ | refine hE _ _ xa2 ?_))<;>(try simp (disch:=first | omega | decide +kernel) only [q',go_sem,Qa,Qb,Qc,Qd,Qe,↓reduceIte,reduceCtorEq,Qf,Qg,Qh])<;>clear q') | (with_reducible first | refine And.intro ?_ ?_ | omega) | (refine xa1 ?_; omega)))
   rw [← hfl]
   exact yt4 13 rfl rfl plain_eds
end Abs.Y
