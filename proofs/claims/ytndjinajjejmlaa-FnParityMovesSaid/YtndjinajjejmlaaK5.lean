/- What functions of this program compute, over plain data. No condition. -/
import Derived.Test.YtndjinajjejmlaaK2
set_option linter.all false
namespace Abs.Y
open Go Go.Proofs Abs
open Nat renaming reduceEqDiff -> Qa, reduceLT -> Qb, reduceAdd -> Qc, reduceMul -> Qd, reduceSub -> Qe, reduceLeDiff -> Qf, reduceSubDiff -> Qg, reduceBEq -> Qh
open Bool renaming not_eq_true' -> Ba, not_eq_false' -> Bb, and_eq_true -> Bc, or_eq_true -> Bh, or_eq_false_iff -> Be
open Int renaming ofNat_lt -> Ia, ofNat_le -> Ib, not_lt -> Ic, not_le -> Ie
open Decidable renaming not_not -> Da
set_option maxRecDepth 100000

def edOk (n : Int) (e : Int × Int) : Bool:=decide (0<=e.1∧e.1 < e.2∧e.2 < n)
def chOk (g : Chg) (v : Nat) : Bool:=decide (0<=g.ch.getD v 0∧g.ch.getD v 0<=1) && decide ((edgesAt g v).length<=4)
def sizesOk (g : Chg) : Prop:=(1<=g.n∧g.n<=8)∧g.ed.length<=12∧(g.ch.length : Int)=g.n
instance (g : Chg) : Decidable (sizesOk g):=by unfold sizesOk; infer_instance
def goodC (g : Chg) : Bool:=decide (sizesOk g) && (decide (∀ k,k < g.ed.length->edOk g.n (g.ed.getD k (0,0))=true) && decide (∀ v,v < g.ch.length->chOk g v=true))
theorem goodC_bad {g : Chg} (h : ¬ sizesOk g) : goodC g=false:=by unfold goodC; rw [decide_eq_false h]; rfl
theorem goodC_bad2 {g : Chg} {k : Nat} (hk : k < g.ed.length) (h : edOk g.n (g.ed.getD k (0,0))=false) : goodC g=false:=by
 unfold goodC; rw [decide_eq_false (p:=∀ k,k < g.ed.length->_) fun h' => by rw [h' k hk] at h; cases h]; simp
theorem goodC_bad3 {g : Chg} {v : Nat} (hv : v < g.ch.length) (h : chOk g v=false) : goodC g=false:=by
 unfold goodC; rw [decide_eq_false (p:=∀ v,v < g.ch.length->_) fun h' => by rw [h' v hv] at h; cases h]; simp
theorem goodC_good {g : Chg} (h1 : sizesOk g) (h2 : ∀ k,k < g.ed.length->edOk g.n (g.ed.getD k (0,0))=true) (h3 : ∀ v,v < g.ch.length->chOk g v=true) : goodC g=true:=by
 unfold goodC; rw [decide_eq_true h1,decide_eq_true h2,decide_eq_true h3]; rfl
theorem goodC_spec {g : Chg} (h : goodC g=true) : sizesOk g∧(∀ k,k < g.ed.length->edOk g.n (g.ed.getD k (0,0))=true)∧∀ v,v < g.ch.length->chOk g v=true:=by
 simpa [goodC] using h
theorem edOk_n {n : Int} {e : Int × Int} (h : ¬ (0<=e.1∧e.1 < e.2∧e.2 < n)) : edOk n e=false:=decide_eq_false h
theorem edOk_y {n : Int} {e : Int × Int} (h : 0<=e.1∧e.1 < e.2∧e.2 < n) : edOk n e=true:=decide_eq_true h
theorem chOk_n1 {g : Chg} {v : Nat} (h : (decide (0<=g.ch.getD v 0) && decide (g.ch.getD v 0<=1))=false) : chOk g v=false:=by
 unfold chOk; rw [Bool.decide_and,h]; rfl
theorem chOk_n2 {g : Chg} {v : Nat} (h : ¬ (edgesAt g v).length<=4) : chOk g v=false:=by
 unfold chOk; rw [decide_eq_false h,Bool.and_false]
theorem chOk_y {g : Chg} {v : Nat} (h1 : 0<=g.ch.getD v 0∧g.ch.getD v 0<=1) (h2 : (edgesAt g v).length<=4) : chOk g v=true:=by
 unfold chOk; rw [decide_eq_true h1,decide_eq_true h2]; rfl
set_option maxHeartbeats 8000000 in
theorem isCharged_ok (g : Chg) (hl : g.ed.length<=4294967296) (hc : g.ch.length<=4294967296) : Ctr Try.prog 19 [D.chg g] false (.d (.bool (goodC g))) []:=by
 have c1:=within_ok g.n 1 8
 refine Ctr.of (n:=69) (rs:=[.tmp 2]) Try.func19 rfl rfl Try.ntmps19 rfl rfl (by kernel_rfl) Try.checked.mixed ?_
 by_cases hs : sizesOk g
 . have hs':=hs
   obtain ⟨⟨s1,s2⟩,s3,s4⟩:=hs'
   rw [decide_eq_true s1,decide_eq_true s2] at c1
   simp (disch:=first | omega | decide +kernel) only [D.chg,D.ints,go_sem,Qa,Qb,Qc,Qd,Qe,↓reduceIte,reduceCtorEq,Qf,Qg,Qh]
   (repeat' (first | ((first | (refine gsel_split (fun q' => ?_) (fun q' => ?_)<;>(have h':=q')<;>(try simp only [za1,za2,Ba,Bb,za3,ne_eq,za4,za5,za6,Ia,Ib,Ic,Ie,Da,Bc,Bh,Be,za7,za8] at h')) | (have q':=trivial; first | refine callX_new (c1) rfl (by decide) ?_ | refine callY_new (c1) rfl ?_ | refine hE _ _ ret_ne ?_ | refine hE _ _ exit_ne ?_))<;>(try simp (disch:=first | omega | decide +kernel) only [q',D.chg,D.ints,go_sem,Qa,Qb,Qc,Qd,Qe,↓reduceIte,reduceCtorEq,Qf,Qg,Qh])<;>clear q') | refine hN _ ?_ ?_ Wk.kk | with_reducible refine And.intro ?_ ?_ | with_reducible omega | exact ok_ints | exact cells_ints | exact no_mem | with_reducible exact plain_ints | (refine le_maxLen ?_; omega) | (refine za9 ⟨?_,?_⟩) | (simp only [go_sem,Qc,Qb,zb1,zb2,forall_eq]; done)))
   refine Ok.loopC [49,48,47,46,45,44,43,42,41,40,39,38,37,36,35,34,33,32,31,30,29,28,4,2] (fun i => [(28,.d (.int .i64 (i : Nat)))]) g.ed.length (fun i => ∀ k,k < i->edOk g.n (g.ed.getD k (0,0))=true) (by simp) (Wk.kk) ?_
   intro R i hN hE hi hI
   by_cases hlt : i < g.ed.length
   . simp (disch:=first | omega | decide +kernel) only [el_eds,el_c0,el_c1,toNat_one,go_sem,Qa,Qb,Qc,Qd,Qe,↓reduceIte,reduceCtorEq,Qf,Qg,Qh]
     (repeat' (first | ((first | (refine gsel_split (fun q' => ?_) (fun q' => ?_)<;>(have h':=q')<;>(try simp only [za1,za2,Ba,Bb,za3,ne_eq,za4,za5,za6,Ia,Ib,Ic,Ie,Da,Bc,Bh,Be,za7,za8] at h')) | (have q':=trivial; first | refine hE _ _ ret_ne ?_ | refine hE _ _ exit_ne ?_))<;>(try simp (disch:=first | omega | decide +kernel) only [q',el_eds,el_c0,el_c1,toNat_one,go_sem,Qa,Qb,Qc,Qd,Qe,↓reduceIte,reduceCtorEq,Qf,Qg,Qh])<;>clear q') | refine hN _ ?_ ?_ Wk.kk | with_reducible refine And.intro ?_ ?_ | with_reducible omega | exact ok_ints | exact cells_ints | exact no_mem | with_reducible exact plain_ints | (refine le_maxLen ?_; omega) | (refine za9 ⟨?_,?_⟩) | (simp only [go_sem,Qc,Qb,zb1,zb2,forall_eq]; done)))
     all_goals (first | (rw [goodC_bad2 hlt (edOk_n (by omega))]; done) | (rw [goodC_bad2 hlt (edOk_n (by omega))]; rfl) | (exact all_succ hI (edOk_y (by omega))))
   . have hI' : ∀ k,k < g.ed.length->edOk g.n (g.ed.getD k (0,0))=true:=fun k hk => hI k (by omega)
     simp (disch:=first | omega | decide +kernel) only [go_sem,Qa,Qb,Qc,Qd,Qe,↓reduceIte,reduceCtorEq,Qf,Qg,Qh]
     (repeat' (first | ((first | (refine gsel_split (fun q' => ?_) (fun q' => ?_)<;>(have h':=q')<;>(try simp only [za1,za2,Ba,Bb,za3,ne_eq,za4,za5,za6,Ia,Ib,Ic,Ie,Da,Bc,Bh,Be,za7,za8] at h')) | (have q':=trivial; first | refine hE _ _ ret_ne ?_ | refine hE _ _ exit_ne ?_))<;>(try simp (disch:=first | omega | decide +kernel) only [q',go_sem,Qa,Qb,Qc,Qd,Qe,↓reduceIte,reduceCtorEq,Qf,Qg,Qh])<;>clear q') | refine hN _ ?_ ?_ Wk.kk | with_reducible refine And.intro ?_ ?_ | with_reducible omega | exact ok_ints | exact cells_ints | exact no_mem | with_reducible exact plain_ints | (refine le_maxLen ?_; omega) | (refine za9 ⟨?_,?_⟩) | (simp only [go_sem,Qc,Qb,zb1,zb2,forall_eq]; done)))
     refine Ok.loopC [68,67,66,65,64,63,62,61,60,59,58,57,56,55,54,53,6,5,2] (fun i => [(53,.d (.int .i64 (i : Nat)))]) g.ch.length (fun i => ∀ v,v < i->chOk g v=true) (by simp) (Wk.kk) ?_
     clear hN hE hi hI
     intro R i hN hE hi hI
     by_cases hlt : i < g.ch.length
     . have c2:=within_ok (g.ch.getD i 0) 0 1
       have c3:=Ctr.data1 (at_ok g i hl)
       have hle:=edgesTo_len g i g.ed.length
       change (edgesAt g i).length<=_ at hle
       change Ctr _ _ [.agg [.int .i64 g.n,.slice (g.ed.map D.ed),.slice (g.ch.map (.int .i64))],_] _ _ _ at c3
       simp (disch:=first | omega | decide +kernel) only [D.ints,go_sem,Qa,Qb,Qc,Qd,Qe,↓reduceIte,reduceCtorEq,Qf,Qg,Qh]
       (repeat' (first | ((first | (refine gsel_split (fun q' => ?_) (fun q' => ?_)<;>(have h':=q')<;>(try simp only [za1,za2,Ba,Bb,za3,ne_eq,za4,za5,za6,Ia,Ib,Ic,Ie,Da,Bc,Bh,Be,za7,za8] at h')) | (have q':=trivial; first | refine callX_new (c2) rfl (by decide) ?_ | refine callY_new (c2) rfl ?_ | refine callX_shared (c3) rfl (by decide) ?_ | refine callY_shared (c3) rfl ?_ | refine hE _ _ ret_ne ?_ | refine hE _ _ exit_ne ?_))<;>(try simp (disch:=first | omega | decide +kernel) only [q',D.ints,go_sem,Qa,Qb,Qc,Qd,Qe,↓reduceIte,reduceCtorEq,Qf,Qg,Qh])<;>clear q') | refine hN _ ?_ ?_ Wk.kk | with_reducible refine And.intro ?_ ?_ | with_reducible omega | exact ok_ints | exact cells_ints | exact no_mem | with_reducible exact plain_ints | (refine le_maxLen ?_; omega) | (refine za9 ⟨?_,?_⟩) | (simp only [go_sem,Qc,Qb,zb1,zb2,forall_eq]; done)))
       all_goals (first | (rw [goodC_bad3 hlt (chOk_n1 h')]; done) | (rw [goodC_bad3 hlt (chOk_n2 (by omega))]; done) | exact all_succ hI (chOk_y (by assumption) (by omega)))
     . simp (disch:=first | omega | decide +kernel) only [go_sem,Qa,Qb,Qc,Qd,Qe,↓reduceIte,reduceCtorEq,Qf,Qg,Qh]
       (repeat' (first | ((first | (refine gsel_split (fun q' => ?_) (fun q' => ?_)<;>(have h':=q')<;>(try simp only [za1,za2,Ba,Bb,za3,ne_eq,za4,za5,za6,Ia,Ib,Ic,Ie,Da,Bc,Bh,Be,za7,za8] at h')) | (have q':=trivial; first | refine hE _ _ ret_ne ?_ | refine hE _ _ exit_ne ?_))<;>(try simp (disch:=first | omega | decide +kernel) only [q',go_sem,Qa,Qb,Qc,Qd,Qe,↓reduceIte,reduceCtorEq,Qf,Qg,Qh])<;>clear q') | refine hN _ ?_ ?_ Wk.kk | with_reducible refine And.intro ?_ ?_ | with_reducible omega | exact ok_ints | exact cells_ints | exact no_mem | with_reducible exact plain_ints | (refine le_maxLen ?_; omega) | (refine za9 ⟨?_,?_⟩) | (simp only [go_sem,Qc,Qb,zb1,zb2,forall_eq]; done)))
       rw [goodC_good hs hI' fun v hv => hI v (by omega)]
 . rw [goodC_bad hs]
   by_cases h1 : 1<=g.n∧g.n<=8
   . rw [decide_eq_true h1.1,decide_eq_true h1.2] at c1
     by_cases h2 : g.ed.length<=12
     . have h3 : ¬ (g.ch.length : Int)=g.n:=fun h3 => hs ⟨h1,h2,h3⟩
       simp (disch:=first | omega | decide +kernel) only [D.chg,D.ints,go_sem,Qa,Qb,Qc,Qd,Qe,↓reduceIte,reduceCtorEq,Qf,Qg,Qh]
       (repeat' (first | ((first | (refine gsel_split (fun q' => ?_) (fun q' => ?_)<;>(have h':=q')<;>(try simp only [za1,za2,Ba,Bb,za3,ne_eq,za4,za5,za6,Ia,Ib,Ic,Ie,Da,Bc,Bh,Be,za7,za8] at h')) | (have q':=trivial; first | refine callX_new (c1) rfl (by decide) ?_ | refine callY_new (c1) rfl ?_ | refine hE _ _ ret_ne ?_ | refine hE _ _ exit_ne ?_))<;>(try simp (disch:=first | omega | decide +kernel) only [q',D.chg,D.ints,go_sem,Qa,Qb,Qc,Qd,Qe,↓reduceIte,reduceCtorEq,Qf,Qg,Qh])<;>clear q') | refine hN _ ?_ ?_ Wk.kk | with_reducible refine And.intro ?_ ?_ | with_reducible omega | exact ok_ints | exact cells_ints | exact no_mem | with_reducible exact plain_ints | (refine le_maxLen ?_; omega) | (refine za9 ⟨?_,?_⟩) | (simp only [go_sem,Qc,Qb,zb1,zb2,forall_eq]; done)))
       all_goals (first | omega)
     . simp (disch:=first | omega | decide +kernel) only [D.chg,D.ints,go_sem,Qa,Qb,Qc,Qd,Qe,↓reduceIte,reduceCtorEq,Qf,Qg,Qh]
       (repeat' (first | ((first | (refine gsel_split (fun q' => ?_) (fun q' => ?_)<;>(have h':=q')<;>(try simp only [za1,za2,Ba,Bb,za3,ne_eq,za4,za5,za6,Ia,Ib,Ic,Ie,Da,Bc,Bh,Be,za7,za8] at h')) | (have q':=trivial; first | refine callX_new (c1) rfl (by decide) ?_ | refine callY_new (c1) rfl ?_ | refine hE _ _ ret_ne ?_ | refine hE _ _ exit_ne ?_))<;>(try simp (disch:=first | omega | decide +kernel) only [q',D.chg,D.ints,go_sem,Qa,Qb,Qc,Qd,Qe,↓reduceIte,reduceCtorEq,Qf,Qg,Qh])<;>clear q') | refine hN _ ?_ ?_ Wk.kk | with_reducible refine And.intro ?_ ?_ | with_reducible omega | exact ok_ints | exact cells_ints | exact no_mem | with_reducible exact plain_ints | (refine le_maxLen ?_; omega) | (refine za9 ⟨?_,?_⟩) | (simp only [go_sem,Qc,Qb,zb1,zb2,forall_eq]; done)))
       all_goals (first | omega)
   . have hb : (decide (1<=g.n) && decide (g.n<=8))=false:=by
      cases h4 : (decide (1<=g.n) && decide (g.n<=8)) with
      | false => rfl
      | true => simp only [Bc,decide_eq_true_eq] at h4; exact absurd h4 h1
     rw [hb] at c1
     simp (disch:=first | omega | decide +kernel) only [D.chg,D.ints,go_sem,Qa,Qb,Qc,Qd,Qe,↓reduceIte,reduceCtorEq,Qf,Qg,Qh]
     (repeat' (first | ((first | (refine gsel_split (fun q' => ?_) (fun q' => ?_)<;>(have h':=q')<;>(try simp only [za1,za2,Ba,Bb,za3,ne_eq,za4,za5,za6,Ia,Ib,Ic,Ie,Da,Bc,Bh,Be,za7,za8] at h')) | (have q':=trivial; first | refine callX_new (c1) rfl (by decide) ?_ | refine callY_new (c1) rfl ?_ | refine hE _ _ ret_ne ?_ | refine hE _ _ exit_ne ?_))<;>(try simp (disch:=first | omega | decide +kernel) only [q',D.chg,D.ints,go_sem,Qa,Qb,Qc,Qd,Qe,↓reduceIte,reduceCtorEq,Qf,Qg,Qh])<;>clear q') | refine hN _ ?_ ?_ Wk.kk | with_reducible refine And.intro ?_ ?_ | with_reducible omega | exact ok_ints | exact cells_ints | exact no_mem | with_reducible exact plain_ints | (refine le_maxLen ?_; omega) | (refine za9 ⟨?_,?_⟩) | (simp only [go_sem,Qc,Qb,zb1,zb2,forall_eq]; done)))
     all_goals (first | omega)
theorem edOk_1 {n : Int} {e : Int × Int} (h : (decide (0<=e.1) && decide (e.1<=n - 1))=false) : edOk n e=false:=by
 refine edOk_n fun h' => ?_
 rw [decide_eq_true h'.1,decide_eq_true (by omega : e.1<=n - 1)] at h
 cases h
theorem edOk_2 {n : Int} {e : Int × Int} (h : (decide (0<=e.2) && decide (e.2<=n - 1))=false) : edOk n e=false:=by
 refine edOk_n fun h' => ?_
 rw [decide_eq_true (by omega : 0<=e.2),decide_eq_true (by omega : e.2<=n - 1)] at h
 cases h
set_option maxHeartbeats 8000000 in
theorem l27Good_ok (g : Chg) (hl : g.ed.length<=4294967296) (hc : g.ch.length<=4294967296) : Ctr Try.prog 28 [D.chg g] false (.d (.bool (goodC g))) []:=by
 have c1:=l1In_ok g.n 1 8
 refine Ctr.of (n:=89) (rs:=[.tmp 2]) Try.func28 rfl rfl Try.ntmps28 rfl rfl (by kernel_rfl) Try.checked.mixed ?_
 by_cases hs : sizesOk g
 . have hs':=hs
   obtain ⟨⟨s1,s2⟩,s3,s4⟩:=hs'
   rw [decide_eq_true s1,decide_eq_true s2] at c1
   simp (disch:=first | omega | decide +kernel) only [D.chg,D.ints,go_sem,Qa,Qb,Qc,Qd,Qe,↓reduceIte,reduceCtorEq,Qf,Qg,Qh]
   (repeat' (first | ((first | (refine gsel_split (fun q' => ?_) (fun q' => ?_)<;>(have h':=q')<;>(try simp only [za1,za2,Ba,Bb,za3,ne_eq,za4,za5,za6,Ia,Ib,Ic,Ie,Da,Bc,Bh,Be,za7,za8] at h')) | (have q':=trivial; first | refine callX_new (c1) rfl (by decide) ?_ | refine callY_new (c1) rfl ?_ | refine hE _ _ ret_ne ?_ | refine hE _ _ exit_ne ?_))<;>(try simp (disch:=first | omega | decide +kernel) only [q',D.chg,D.ints,go_sem,Qa,Qb,Qc,Qd,Qe,↓reduceIte,reduceCtorEq,Qf,Qg,Qh])<;>clear q') | refine hN _ ?_ ?_ Wk.kk | with_reducible refine And.intro ?_ ?_ | with_reducible omega | exact ok_ints | exact cells_ints | exact no_mem | with_reducible exact plain_ints | (refine le_maxLen ?_; omega) | (refine za9 ⟨?_,?_⟩) | (simp only [go_sem,Qc,Qb,zb1,zb2,forall_eq]; done)))
   refine Ok.loopC [68,67,66,65,64,63,62,61,60,59,58,57,56,55,54,53,52,51,50,49,48,47,46,45,44,43,42,41,40,39,38,37,36,35,34,33,32,31,30,29,28,27,26,25,24,23,3,2] (fun i => [(3,.d (.int .i64 (i : Nat)))]) g.ed.length (fun i => ∀ k,k < i->edOk g.n (g.ed.getD k (0,0))=true) (by simp) (Wk.kk) ?_
   intro R i hN hE hi hI
   by_cases hlt : i < g.ed.length
   . have c2:=l1In_ok (g.ed.getD i (0,0)).1 0 (g.n - 1)
     have c3:=l1In_ok (g.ed.getD i (0,0)).2 0 (g.n - 1)
     simp (disch:=first | omega | decide +kernel) only [el_eds,el_c0,el_c1,toNat_one,go_sem,Qa,Qb,Qc,Qd,Qe,↓reduceIte,reduceCtorEq,Qf,Qg,Qh]
     (repeat' (first | ((first | (refine gsel_split (fun q' => ?_) (fun q' => ?_)<;>(have h':=q')<;>(try simp only [za1,za2,Ba,Bb,za3,ne_eq,za4,za5,za6,Ia,Ib,Ic,Ie,Da,Bc,Bh,Be,za7,za8] at h')) | (have q':=trivial; first | refine callX_new (c2) rfl (by decide) ?_ | refine callY_new (c2) rfl ?_ | refine callX_new (c3) rfl (by decide) ?_ | refine callY_new (c3) rfl ?_ | refine hE _ _ ret_ne ?_ | refine hE _ _ exit_ne ?_))<;>(try simp (disch:=first | omega | decide +kernel) only [q',el_eds,el_c0,el_c1,toNat_one,go_sem,Qa,Qb,Qc,Qd,Qe,↓reduceIte,reduceCtorEq,Qf,Qg,Qh])<;>clear q') | refine hN _ ?_ ?_ Wk.kk | with_reducible refine And.intro ?_ ?_ | with_reducible omega | exact ok_ints | exact cells_ints | exact no_mem | with_reducible exact plain_ints | (refine le_maxLen ?_; omega) | (refine za9 ⟨?_,?_⟩) | (simp only [go_sem,Qc,Qb,zb1,zb2,forall_eq]; done)))
     all_goals (first | (rw [goodC_bad2 hlt (edOk_1 h')]; done) | (rw [goodC_bad2 hlt (edOk_2 h')]; done) | (rw [goodC_bad2 hlt (edOk_n (by omega))]; done) | (exact all_succ hI (edOk_y (by omega))))
   . have hI' : ∀ k,k < g.ed.length->edOk g.n (g.ed.getD k (0,0))=true:=fun k hk => hI k (by omega)
     simp (disch:=first | omega | decide +kernel) only [go_sem,Qa,Qb,Qc,Qd,Qe,↓reduceIte,reduceCtorEq,Qf,Qg,Qh]
     (repeat' (first | ((first | (refine gsel_split (fun q' => ?_) (fun q' => ?_)<;>(have h':=q')<;>(try simp only [za1,za2,Ba,Bb,za3,ne_eq,za4,za5,za6,Ia,Ib,Ic,Ie,Da,Bc,Bh,Be,za7,za8] at h')) | (have q':=trivial; first | refine hE _ _ ret_ne ?_ | refine hE _ _ exit_ne ?_))<;>(try simp (disch:=first | omega | decide +kernel) only [q',go_sem,Qa,Qb,Qc,Qd,Qe,↓reduceIte,reduceCtorEq,Qf,Qg,Qh])<;>clear q') | refine hN _ ?_ ?_ Wk.kk | with_reducible refine And.intro ?_ ?_ | with_reducible omega | exact ok_ints | exact cells_ints | exact no_mem | with_reducible exact plain_ints | (refine le_maxLen ?_; omega) | (refine za9 ⟨?_,?_⟩) | (simp only [go_sem,Qc,Qb,zb1,zb2,forall_eq]; done)))
     have hnn : g.n=(g.ch.length : Nat):=s4.symm
     refine Ok.loopC [88,87,86,85,84,83,82,81,80,79,78,77,76,75,74,73,72,71,70,69,4,2] (fun i => [(4,.d (.int .i64 (i : Nat)))]) g.ch.length (fun i => ∀ v,v < i->chOk g v=true) (by simp) (Wk.kk) ?_
     clear hN hE hi hI
     intro R i hN hE hi hI
     by_cases hlt : i < g.ch.length
     . have c2:=l1In_ok (g.ch.getD i 0) 0 1
       have c3:=Ctr.data1 (l27At_ok g i hl)
       have hle:=edgesTo_len g i g.ed.length
       change (edgesAt g i).length<=_ at hle
       change Ctr _ _ [.agg [.int .i64 g.n,.slice (g.ed.map D.ed),.slice (g.ch.map (.int .i64))],_] _ _ _ at c3
       simp (disch:=first | omega | decide +kernel) only [D.ints,go_sem,Qa,Qb,Qc,Qd,Qe,↓reduceIte,reduceCtorEq,Qf,Qg,Qh]
       (repeat' (first | ((first | (refine gsel_split (fun q' => ?_) (fun q' => ?_)<;>(have h':=q')<;>(try simp only [za1,za2,Ba,Bb,za3,ne_eq,za4,za5,za6,Ia,Ib,Ic,Ie,Da,Bc,Bh,Be,za7,za8] at h')) | (have q':=trivial; first | refine callX_new (c2) rfl (by decide) ?_ | refine callY_new (c2) rfl ?_ | refine callX_shared (c3) rfl (by decide) ?_ | refine callY_shared (c3) rfl ?_ | refine hE _ _ ret_ne ?_ | refine hE _ _ exit_ne ?_))<;>(try simp (disch:=first | omega | decide +kernel) only [q',D.ints,go_sem,Qa,Qb,Qc,Qd,Qe,↓reduceIte,reduceCtorEq,Qf,Qg,Qh])<;>clear q') | refine hN _ ?_ ?_ Wk.kk | with_reducible refine And.intro ?_ ?_ | with_reducible omega | exact ok_ints | exact cells_ints | exact no_mem | with_reducible exact plain_ints | (refine le_maxLen ?_; omega) | (refine za9 ⟨?_,?_⟩) | (simp only [go_sem,Qc,Qb,zb1,zb2,forall_eq]; done)))
       all_goals (first | (rw [goodC_bad3 hlt (chOk_n1 h')]; done) | (rw [goodC_bad3 hlt (chOk_n2 (by omega))]; done) | exact all_succ hI (chOk_y (by assumption) (by omega)))
     . simp (disch:=first | omega | decide +kernel) only [go_sem,Qa,Qb,Qc,Qd,Qe,↓reduceIte,reduceCtorEq,Qf,Qg,Qh]
       (repeat' (first | ((first | (refine gsel_split (fun q' => ?_) (fun q' => ?_)<;>(have h':=q')<;>(try simp only [za1,za2,Ba,Bb,za3,ne_eq,za4,za5,za6,Ia,Ib,Ic,Ie,Da,Bc,Bh,Be,za7,za8] at h')) | (have q':=trivial; first | refine hE _ _ ret_ne ?_ | refine hE _ _ exit_ne ?_))<;>(try simp (disch:=first | omega | decide +kernel) only [q',go_sem,Qa,Qb,Qc,Qd,Qe,↓reduceIte,reduceCtorEq,Qf,Qg,Qh])<;>clear q') | refine hN _ ?_ ?_ Wk.kk | with_reducible refine And.intro ?_ ?_ | with_reducible omega | exact ok_ints | exact cells_ints | exact no_mem | with_reducible exact plain_ints | (refine le_maxLen ?_; omega) | (refine za9 ⟨?_,?_⟩) | (simp only [go_sem,Qc,Qb,zb1,zb2,forall_eq]; done)))
       all_goals (first | (rw [goodC_good hs hI' fun v hv => hI v (by omega)]; done) | omega)
 . rw [goodC_bad hs]
   by_cases h1 : 1<=g.n∧g.n<=8
   . rw [decide_eq_true h1.1,decide_eq_true h1.2] at c1
     by_cases h2 : g.ed.length<=12
     . have h3 : ¬ (g.ch.length : Int)=g.n:=fun h3 => hs ⟨h1,h2,h3⟩
       simp (disch:=first | omega | decide +kernel) only [D.chg,D.ints,go_sem,Qa,Qb,Qc,Qd,Qe,↓reduceIte,reduceCtorEq,Qf,Qg,Qh]
       (repeat' (first | ((first | (refine gsel_split (fun q' => ?_) (fun q' => ?_)<;>(have h':=q')<;>(try simp only [za1,za2,Ba,Bb,za3,ne_eq,za4,za5,za6,Ia,Ib,Ic,Ie,Da,Bc,Bh,Be,za7,za8] at h')) | (have q':=trivial; first | refine callX_new (c1) rfl (by decide) ?_ | refine callY_new (c1) rfl ?_ | refine hE _ _ ret_ne ?_ | refine hE _ _ exit_ne ?_))<;>(try simp (disch:=first | omega | decide +kernel) only [q',D.chg,D.ints,go_sem,Qa,Qb,Qc,Qd,Qe,↓reduceIte,reduceCtorEq,Qf,Qg,Qh])<;>clear q') | refine hN _ ?_ ?_ Wk.kk | with_reducible refine And.intro ?_ ?_ | with_reducible omega | exact ok_ints | exact cells_ints | exact no_mem | with_reducible exact plain_ints | (refine le_maxLen ?_; omega) | (refine za9 ⟨?_,?_⟩) | (simp only [go_sem,Qc,Qb,zb1,zb2,forall_eq]; done)))
       all_goals (first | omega)
     . simp (disch:=first | omega | decide +kernel) only [D.chg,D.ints,go_sem,Qa,Qb,Qc,Qd,Qe,↓reduceIte,reduceCtorEq,Qf,Qg,Qh]
       (repeat' (first | ((first | (refine gsel_split (fun q' => ?_) (fun q' => ?_)<;>(have h':=q')<;>(try simp only [za1,za2,Ba,Bb,za3,ne_eq,za4,za5,za6,Ia,Ib,Ic,Ie,Da,Bc,Bh,Be,za7,za8] at h')) | (have q':=trivial; first | refine callX_new (c1) rfl (by decide) ?_ | refine callY_new (c1) rfl ?_ | refine hE _ _ ret_ne ?_ | refine hE _ _ exit_ne ?_))<;>(try simp (disch:=first | omega | decide +kernel) only [q',D.chg,D.ints,go_sem,Qa,Qb,Qc,Qd,Qe,↓reduceIte,reduceCtorEq,Qf,Qg,Qh])<;>clear q') | refine hN _ ?_ ?_ Wk.kk | with_reducible refine And.intro ?_ ?_ | with_reducible omega | exact ok_ints | exact cells_ints | exact no_mem | with_reducible exact plain_ints | (refine le_maxLen ?_; omega) | (refine za9 ⟨?_,?_⟩) | (simp only [go_sem,Qc,Qb,zb1,zb2,forall_eq]; done)))
       all_goals (first | omega)
   . have hb : (decide (1<=g.n) && decide (g.n<=8))=false:=by
      cases h4 : (decide (1<=g.n) && decide (g.n<=8)) with
      | false => rfl
      | true => simp only [Bc,decide_eq_true_eq] at h4; exact absurd h4 h1
     rw [hb] at c1
     simp (disch:=first | omega | decide +kernel) only [D.chg,D.ints,go_sem,Qa,Qb,Qc,Qd,Qe,↓reduceIte,reduceCtorEq,Qf,Qg,Qh]
     (repeat' (first | ((first | (refine gsel_split (fun q' => ?_) (fun q' => ?_)<;>(have h':=q')<;>(try simp only [za1,za2,Ba,Bb,za3,ne_eq,za4,za5,za6,Ia,Ib,Ic,Ie,Da,Bc,Bh,Be,za7,za8] at h')) | (have q':=trivial; first | refine callX_new (c1) rfl (by decide) ?_ | refine callY_new (c1) rfl ?_ | refine hE _ _ ret_ne ?_ | refine hE _ _ exit_ne ?_))<;>(try simp (disch:=first | omega | decide +kernel) only [q',D.chg,D.ints,go_sem,Qa,Qb,Qc,Qd,Qe,↓reduceIte,reduceCtorEq,Qf,Qg,Qh])<;>clear q') | refine hN _ ?_ ?_ Wk.kk | with_reducible refine And.intro ?_ ?_ | with_reducible omega | exact ok_ints | exact cells_ints | exact no_mem | with_reducible exact plain_ints | (refine le_maxLen ?_; omega) | (refine za9 ⟨?_,?_⟩) | (simp only [go_sem,Qc,Qb,zb1,zb2,forall_eq]; done)))
     all_goals (first | omega)
end Abs.Y

namespace Abs.Y
open Go Go.Proofs Abs
open Nat renaming reduceEqDiff -> Qa, reduceLT -> Qb, reduceAdd -> Qc, reduceMul -> Qd, reduceSub -> Qe, reduceLeDiff -> Qf, reduceSubDiff -> Qg, reduceBEq -> Qh
open Bool renaming not_eq_true' -> Ba, not_eq_false' -> Bb, and_eq_true -> Bc, or_eq_true -> Bh, or_eq_false_iff -> Be
open Int renaming ofNat_lt -> Ia, ofNat_le -> Ib, not_lt -> Ic, not_le -> Ie
open Decidable renaming not_not -> Da
set_option maxRecDepth 100000

def other (g : Chg) (now k : Int) : Int:=(g.ed.getD k.toNat (0,0)).1 + (g.ed.getD k.toNat (0,0)).2 - now
def hasV (out : List (Int × Int)) (x : Int) : Bool:=out.any fun r => decide (r.1=x)
def grow1 (g : Chg) (now : Int) (out : List (Int × Int)) (k : Int) : List (Int × Int):=if hasV out (other g now k)=true then out else out++[(other g now k,k)]
def growL (g : Chg) (now : Int) (ks : List Int) (out : List (Int × Int)) : List (Int × Int):=ks.foldl (grow1 g now) out
def stepL (g : Chg) (out : List (Int × Int)) (i : Nat) : List (Int × Int):=growL g (out.getD i (0,0)).1 (edgesAt g (out.getD i (0,0)).1) out
def lineF (g : Chg) : Nat->Nat->List (Int × Int)->List (Int × Int)
 | 0,_,out => out
 | f + 1,i,out => if i < out.length then lineF g f (i + 1) (stepL g out i) else out
def lineI (g : Chg) (v : Int) : List (Int × Int):=lineF g 9 0 [(v,-1)]
structure LinOk (g : Chg) (out : List (Int × Int)) : Prop where
 nd : (out.map (·.1)).Nodup
 vx : ∀ r ∈ out,0<=r.1∧r.1 < g.n
 ed : ∀ r ∈ out,r.2=-1∨(0<=r.2∧r.2.toNat < g.ed.length)
 n8 : g.n<=8
theorem hasV_mem {out : List (Int × Int)} {x : Int} : hasV out x=true↔x ∈ out.map (·.1):=by
 simp [hasV,List.any_eq_true]
theorem LinOk.len {g : Chg} {out : List (Int × Int)} (h : LinOk g out) : out.length<=8:=by
 have h1 : (out.map (·.1)) ⊆ (List.range 8).map fun (i : Nat) => (i : Int):=fun x hx => by
  obtain ⟨r,hr,rfl⟩:=List.mem_map.1 hx
  have h2:=h.vx r hr
  have h3:=h.n8
  exact List.mem_map.2 ⟨r.1.toNat,List.mem_range.2 (by omega),by omega⟩
 have:=h.nd.length_le_of_subset h1
 simpa using this
theorem other_ok {g : Chg} (hg : goodC g=true) {now k : Int} (hk : k ∈ edgesAt g now) : 0<=other g now k∧other g now k < g.n:=by
 obtain ⟨h1,h2,h3⟩:=mem_edges hk
 have h4:=(goodC_spec hg).2.1 _ h2
 simp only [edOk,decide_eq_true_eq] at h4
 unfold other
 rcases h3 with h3 | h3<;>omega
theorem grow1_ok {g : Chg} (hg : goodC g=true) {now k : Int} (hk : k ∈ edgesAt g now) {out : List (Int × Int)} (h : LinOk g out) : LinOk g (grow1 g now out k):=by
 unfold grow1
 split
 . exact h
 . rename_i hn
   have ho:=other_ok hg hk
   have hm:=mem_edges hk
   rw [hasV_mem] at hn
   refine ⟨?_,fun r hr => ?_,fun r hr => ?_,h.n8⟩
   . rw [List.map_append,List.nodup_append]
     refine ⟨h.nd,by simp,fun a ha b hb e => ?_⟩
     simp only [List.map_cons,List.map_nil,List.mem_singleton] at hb
     subst hb; subst e
     exact hn ha
   . rcases List.mem_append.1 hr with hr | hr
     . exact h.vx r hr
     . rw [List.mem_singleton.1 hr]; exact ho
   . rcases List.mem_append.1 hr with hr | hr
     . exact h.ed r hr
     . rw [List.mem_singleton.1 hr]; exact .inr ⟨hm.1,hm.2.1⟩
theorem growL_ok {g : Chg} (hg : goodC g=true) {now : Int} : ∀ {ks : List Int} {out : List (Int × Int)},(∀ k ∈ ks,k ∈ edgesAt g now)->LinOk g out->LinOk g (growL g now ks out)
 | [],out,_,h => h
 | k :: r,out,hk,h => growL_ok (ks:=r) hg (fun k' h' => hk k' (by simp [h'])) (grow1_ok hg (hk k (by simp)) h)
theorem grow1_pre {g : Chg} {now k : Int} {out : List (Int × Int)} : out <+: grow1 g now out k:=by
 unfold grow1; split
 . exact List.prefix_rfl
 . exact List.prefix_append _ _
theorem growL_pre {g : Chg} {now : Int} : ∀ {ks : List Int} {out : List (Int × Int)},out <+: growL g now ks out
 | [],out => List.prefix_rfl
 | k :: r,out => grow1_pre.trans (growL_pre (ks:=r))
theorem lin_start {g : Chg} (hg : goodC g=true) {v : Int} (hv : 0<=v∧v < g.n) : LinOk g [(v,-1)] :=
 ⟨by simp,fun r hr => by rw [List.mem_singleton.1 hr]; exact hv,fun r hr => by rw [List.mem_singleton.1 hr]; exact .inl rfl,(goodC_spec hg).1.1.2⟩
theorem line1_ok (r : Int × Int) (x : Int) : Ctr Try.prog 72 [D.ed r,.ptr (.int .i64 x)] false (.d (.bool (decide (r.1=x)))) []:=by
 refine Ctr.of (n:=8) (rs:=[.tmp 3]) Try.func72 rfl rfl Try.ntmps72 rfl rfl (by kernel_rfl) Try.checked.mixed ?_
 simp (disch:=first | omega | decide +kernel) only [D.ed,go_sem,Qa,Qb,Qc,Qd,Qe,↓reduceIte,reduceCtorEq,Qf,Qg,Qh]
 (repeat' (first | ((first | (refine gsel_split (fun q' => ?_) (fun q' => ?_)<;>(have h':=q')<;>(try simp only [za1,za2,Ba,Bb,za3,ne_eq,za4,za5,za6,Ia,Ib,Ic,Ie,Da,Bc,Bh,Be,za7,za8] at h')) | (have q':=trivial; first | refine hE _ _ ret_ne ?_ | refine hE _ _ exit_ne ?_))<;>(try simp (disch:=first | omega | decide +kernel) only [q',go_sem,Qa,Qb,Qc,Qd,Qe,↓reduceIte,reduceCtorEq,Qf,Qg,Qh])<;>clear q') | refine hN _ ?_ ?_ Wk.kk | with_reducible refine And.intro ?_ ?_ | with_reducible omega | exact ok_ints | exact cells_ints | exact no_mem | with_reducible exact plain_ints | (refine le_maxLen ?_; omega) | (refine za9 ⟨?_,?_⟩) | (simp only [go_sem,Qc,Qb,zb1,zb2,forall_eq]; done)))
 congr 1
theorem indexFuncR_ok (l : List (Int × Int)) (x : Int) (hl : l.length<=1048576) :
 Ctr Try.prog 84 [.slice (l.map D.ed),.fn (.func 72) [] [.ptr (.int .i64 x)]] false (.d (.int .i64 (idxR (fun j => decide ((l.getD j (0,0)).1=x)) l.length))) []:=by
 refine Ctr.of (n:=19) (rs:=[.tmp 4]) Try.func84 rfl rfl Try.ntmps84 rfl rfl (by kernel_rfl) Try.checked.mixed ?_
 simp (disch:=first | omega | decide +kernel) only [go_sem,Qa,Qb,Qc,Qd,Qe,↓reduceIte,reduceCtorEq,Qf,Qg,Qh]
 refine Ok.loopC [18,17,16,15,14,13,12,11,10,9,8,6,5,4,3,2] (fun i => [(8,.d (.int .i64 (i : Nat)))]) l.length (fun i => ∀ j,j < i->decide ((l.getD j (0,0)).1=x)=false) (by simp) (Wk.kk) ?_
 intro R i hN hE hi hI
 by_cases hlt : i < l.length
 . have hpi:=line1_ok (l.getD i (0,0)) x
   generalize hsd : l.getD i (0,0)=s at *
   simp (disch:=first | omega | decide +kernel) only [el_eds,hsd,go_sem,Qa,Qb,Qc,Qd,Qe,↓reduceIte,reduceCtorEq,Qf,Qg,Qh]
   (repeat' (first | ((first | (refine gsel_split (fun q' => ?_) (fun q' => ?_)<;>(have h':=q')<;>(try simp only [za1,za2,Ba,Bb,za3,ne_eq,za4,za5,za6,Ia,Ib,Ic,Ie,Da,Bc,Bh,Be,za7,za8] at h')) | (have q':=trivial; first | refine callX_new (hpi) rfl (by decide) ?_ | refine callY_new (hpi) rfl ?_ | refine hE _ _ ret_ne ?_ | refine hE _ _ exit_ne ?_))<;>(try simp (disch:=first | omega | decide +kernel) only [q',el_eds,hsd,D.ed,go_sem,Qa,Qb,Qc,Qd,Qe,↓reduceIte,reduceCtorEq,Qf,Qg,Qh])<;>clear q') | refine hN _ ?_ ?_ Wk.kk | with_reducible refine And.intro ?_ ?_ | with_reducible omega | exact ok_ints | exact cells_ints | exact no_mem | with_reducible exact plain_ints | (refine le_maxLen ?_; omega) | (refine za9 ⟨?_,?_⟩) | (simp only [go_sem,Qc,Qb,zb1,zb2,forall_eq]; done)))
   . rw [idxR_some hlt (by rw [hsd]; exact decide_eq_true (by assumption)) hI]
   . exact all_succ hI (by rw [hsd]; exact decide_eq_false (by assumption))
 . simp (disch:=first | omega | decide +kernel) only [go_sem,Qa,Qb,Qc,Qd,Qe,↓reduceIte,reduceCtorEq,Qf,Qg,Qh]
   (repeat' (first | ((first | (refine gsel_split (fun q' => ?_) (fun q' => ?_)<;>(have h':=q')<;>(try simp only [za1,za2,Ba,Bb,za3,ne_eq,za4,za5,za6,Ia,Ib,Ic,Ie,Da,Bc,Bh,Be,za7,za8] at h')) | (have q':=trivial; first | refine hE _ _ ret_ne ?_ | refine hE _ _ exit_ne ?_))<;>(try simp (disch:=first | omega | decide +kernel) only [q',go_sem,Qa,Qb,Qc,Qd,Qe,↓reduceIte,reduceCtorEq,Qf,Qg,Qh])<;>clear q') | refine hN _ ?_ ?_ Wk.kk | with_reducible refine And.intro ?_ ?_ | with_reducible omega | exact ok_ints | exact cells_ints | exact no_mem | with_reducible exact plain_ints | (refine le_maxLen ?_; omega) | (refine za9 ⟨?_,?_⟩) | (simp only [go_sem,Qc,Qb,zb1,zb2,forall_eq]; done)))
   rw [idxR_none fun j hj => hI j (by omega)]
theorem hasV_idx (l : List (Int × Int)) (x : Int) : decide (0<=idxR (fun j => decide ((l.getD j (0,0)).1=x)) l.length)=hasV l x:=by
 by_cases h : ∃ j,j < l.length∧decide ((l.getD j (0,0)).1=x)=true
 . obtain ⟨j,hj,hp⟩:=h
   have h1 : hasV l x=true:=any_true (z:=(0,0)) hj hp
   rw [h1]
   unfold idxR
   cases hf : (List.range l.length).find? fun j => decide ((l.getD j (0,0)).1=x) with
   | some k => simp
   | none => rw [List.find?_range_eq_none] at hf; exact absurd hp (by simpa using hf j hj)
 . have h2 : ∀ j,j < l.length->decide ((l.getD j (0,0)).1=x)=false:=fun j hj => by
    cases hb : decide ((l.getD j (0,0)).1=x) with
    | false => rfl
    | true => exact absurd ⟨j,hj,hb⟩ h
   rw [idxR_none h2,show hasV l x=false from any_false (z:=(0,0)) h2]; rfl
theorem containsFuncR_ok (l : List (Int × Int)) (x : Int) (hl : l.length<=1048576) :
 Ctr Try.prog 71 [.slice (l.map D.ed),.fn (.func 72) [] [.ptr (.int .i64 x)]] false (.d (.bool (hasV l x))) []:=by
 have c1:=indexFuncR_ok l x hl
 rw [← hasV_idx]
 refine Ctr.of (n:=9) (rs:=[.tmp 4]) Try.func71 rfl rfl Try.ntmps71 rfl rfl (by kernel_rfl) Try.checked.mixed ?_
 simp (disch:=first | omega | decide +kernel) only [go_sem,Qa,Qb,Qc,Qd,Qe,↓reduceIte,reduceCtorEq,Qf,Qg,Qh]
 (repeat' (first | ((first | (refine gsel_split (fun q' => ?_) (fun q' => ?_)<;>(have h':=q')<;>(try simp only [za1,za2,Ba,Bb,za3,ne_eq,za4,za5,za6,Ia,Ib,Ic,Ie,Da,Bc,Bh,Be,za7,za8] at h')) | (have q':=trivial; first | refine callX_new (c1) rfl (by decide) ?_ | refine callY_new (c1) rfl ?_ | refine hE _ _ ret_ne ?_ | refine hE _ _ exit_ne ?_))<;>(try simp (disch:=first | omega | decide +kernel) only [q',go_sem,Qa,Qb,Qc,Qd,Qe,↓reduceIte,reduceCtorEq,Qf,Qg,Qh])<;>clear q') | refine hN _ ?_ ?_ Wk.kk | with_reducible refine And.intro ?_ ?_ | with_reducible omega | exact ok_ints | exact cells_ints | exact no_mem | with_reducible exact plain_ints | (refine le_maxLen ?_; omega) | (refine za9 ⟨?_,?_⟩) | (simp only [go_sem,Qc,Qb,zb1,zb2,forall_eq]; done)))
end Abs.Y

namespace Abs.Y
open Go Go.Proofs Abs
open Nat renaming reduceEqDiff -> Qa, reduceLT -> Qb, reduceAdd -> Qc, reduceMul -> Qd, reduceSub -> Qe, reduceLeDiff -> Qf, reduceSubDiff -> Qg, reduceBEq -> Qh
open Bool renaming not_eq_true' -> Ba, not_eq_false' -> Bb, and_eq_true -> Bc, or_eq_true -> Bh, or_eq_false_iff -> Be
open Int renaming ofNat_lt -> Ia, ofNat_le -> Ib, not_lt -> Ic, not_le -> Ie
open Decidable renaming not_not -> Da
set_option maxRecDepth 100000

theorem lineF_step {g : Chg} {f i : Nat} {out : List (Int × Int)} (h : i < out.length) : lineF g (f + 1) i out=lineF g f (i + 1) (stepL g out i):=by rw [lineF,if_pos h]
theorem lineF_end {g : Chg} {f i : Nat} {out : List (Int × Int)} (h : ¬ i < out.length) : lineF g f i out=out:=by
 cases f with
 | zero => rfl
 | succ f => rw [lineF,if_neg h]
theorem plain_eds {xs : List (Int × Int)} : ∀ y ∈ xs.map D.ed,y.plain=true:=fun y hy => by
 obtain ⟨e,_,rfl⟩:=List.mem_map.1 hy; rfl
structure Edg (g : Chg) (now k : Int) : Prop where
 k0 : 0<=k
 kl : k.toNat < g.ed.length
 a0 : 0<=(g.ed.getD k.toNat (0,0)).1
 a1 : (g.ed.getD k.toNat (0,0)).1<=7
 b0 : 0<=(g.ed.getD k.toNat (0,0)).2
 b1 : (g.ed.getD k.toNat (0,0)).2<=7
theorem edg_of {g : Chg} (hg : goodC g=true) {now k : Int} (hk : k ∈ edgesAt g now) : Edg g now k:=by
 obtain ⟨h1,h2,h3⟩:=mem_edges hk
 have h4:=(goodC_spec hg).2.1 _ h2
 have h5:=(goodC_spec hg).1.1.2
 simp only [edOk,decide_eq_true_eq] at h4
 exact ⟨h1,h2,by omega,by omega,by omega,by omega⟩
set_option maxHeartbeats 8000000 in
theorem line_ok (g : Chg) (v : Int) (hg : goodC g=true) (hv : 0<=v∧v < g.n) :
 Ctr Try.prog 67 [D.chg g,.int .i64 v] false (.sl 0) [(0,.arr 91 2 ((lineI g v).map D.ed))]:=by
 have hs:=(goodC_spec hg).1
 have hn8:=hs.1.2
 have hed:=hs.2.1
 refine Ctr.of (n:=60) (rs:=[.tmp 4]) Try.func67 rfl rfl Try.ntmps67 rfl rfl (by kernel_rfl) Try.checked.mixed ?_
 simp (disch:=first | omega | decide +kernel) only [D.chg,D.ints,go_sem,Qa,Qb,Qc,Qd,Qe,↓reduceIte,reduceCtorEq,Qf,Qg,Qh]
 (repeat' (first | ((first | (refine gsel_split (fun q' => ?_) (fun q' => ?_)<;>(have h':=q')<;>(try simp only [za1,za2,Ba,Bb,za3,ne_eq,za4,za5,za6,Ia,Ib,Ic,Ie,Da,Bc,Bh,Be,za7,za8] at h')) | (have q':=trivial; first | refine hE _ _ ret_ne ?_ | refine hE _ _ exit_ne ?_))<;>(try simp (disch:=first | omega | decide +kernel) only [q',go_sem,Qa,Qb,Qc,Qd,Qe,↓reduceIte,reduceCtorEq,Qf,Qg,Qh])<;>clear q') | refine hN _ ?_ ?_ Wk.kk | with_reducible refine And.intro ?_ ?_ | with_reducible omega | exact ok_ints | exact cells_ints | exact no_mem | with_reducible exact plain_ints | (refine le_maxLen ?_; omega) | (refine za9 ⟨?_,?_⟩) | (simp only [go_sem,Qc,Qb,zb1,zb2,forall_eq]; done)))
 refine Ok.loopU [58,57,56,55,54,53,52,51,50,49,48,47,46,45,44,43,42,41,40,39,38,37,36,35,34,33,32,31,30,29,28,27,26,25,24,23,22,21,20,19,18,17,16,15,14,13,12,11,10,9,8,7,6,5,3,1,0] (fun (p : Nat × List (Int × Int)) => [(6,.d (.int .i64 (p.1 : Nat))),(5,.sl 13)]) (fun p => [(13,.arr 91 2 (p.2.map D.ed))])
  (fun n p => n + p.1=9∧LinOk g p.2∧p.1<=p.2.length∧lineF g n p.1 p.2=lineI g v) 9 (0,[(v,-1)]) ⟨by simp,lin_start hg hv,by simp,rfl⟩ (by refine Wk.auto ?_ ?_<;>simp [extraK,lk,killL,St.kill,wipeO,wipeS,AV.has,AV.hasL,AO.wipe,List.map_set,updSt,insL,dropS,ins,D.ed]) ?_
 rintro R n ⟨i,out⟩ hN hE ⟨hni,hlo,hil,hfl⟩
 simp only at hni hlo hil hfl
 have hol:=hlo.len
 by_cases hlt : i < out.length
 . obtain ⟨m,rfl⟩ : ∃ m,n=m + 1:=⟨n - 1,by omega⟩
   rw [lineF_step hlt] at hfl
   have hvx:=hlo.vx _ (getD_mem (z:=((0 : Int),(0 : Int))) hlt)
   unfold stepL at hfl
   generalize hnow : (out.getD i (0,0)).1=now at *
   have c1:=at_ok g now (by omega)
   have hle:=edgesTo_len g now g.ed.length
   change (edgesAt g now).length<=_ at hle
   simp (disch:=first | omega | decide +kernel) only [el_eds,hnow,go_sem,Qa,Qb,Qc,Qd,Qe,↓reduceIte,reduceCtorEq,Qf,Qg,Qh]
   (repeat' (first | ((first | (refine gsel_split (fun q' => ?_) (fun q' => ?_)<;>(have h':=q')<;>(try simp only [za1,za2,Ba,Bb,za3,ne_eq,za4,za5,za6,Ia,Ib,Ic,Ie,Da,Bc,Bh,Be,za7,za8] at h')) | (have q':=trivial; first | refine callX_new (c1) rfl (by decide) ?_ | refine callY_new (c1) rfl ?_ | refine hE _ _ ret_ne ?_ | refine hE _ _ exit_ne ?_))<;>(try simp (disch:=first | omega | decide +kernel) only [q',el_eds,hnow,D.chg,D.ints,go_sem,Qa,Qb,Qc,Qd,Qe,↓reduceIte,reduceCtorEq,Qf,Qg,Qh])<;>clear q') | refine hN _ ?_ ?_ Wk.kk | with_reducible refine And.intro ?_ ?_ | with_reducible omega | exact ok_ints | exact cells_ints | exact no_mem | with_reducible exact plain_ints | (refine le_maxLen ?_; omega) | (refine za9 ⟨?_,?_⟩) | (simp only [go_sem,Qc,Qb,zb1,zb2,forall_eq]; done)))
   have hgl : LinOk g (growL g now (edgesAt g now) out):=growL_ok hg (fun k h => h) hlo
   have hpl:=(growL_pre (g:=g) (now:=now) (ks:=edgesAt g now) (out:=out)).length_le
   have hed':=fun k (hk : k ∈ edgesAt g now) => edg_of hg hk
   have hgr:=fun ks (hk : ∀ k ∈ ks,k ∈ edgesAt g now) => growL_ok hg hk hlo
   clear c1
   generalize edgesAt g now=ks at *
   refine Ok.loopN [58,57,56,55,54,53,52,51,50,49,48,47,46,45,44,43,42,41,40,39,38,37,36,35,34,33,32,31,30,29,23,22,20,15,13,12,11,10,9,8,5,3,1,0] (fun j _ => [(29,.d (.int .i64 (j : Nat))),(5,.sl 13)]) (fun _ (cur : List (Int × Int)) => [(13,.arr 91 2 (cur.map D.ed))]) ks.length
    (fun j cur => cur=growL g now (ks.take j) out) out (by simp [growL]) (Wk.kk) ?_
   rintro R2 j cur hN2 hE hj rfl
   by_cases hjl : j < ks.length
   . have hkm : ks.getD j 0 ∈ ks:=getD_mem hjl
     have hlc:=hgr (ks.take j) fun k h => List.mem_of_mem_take h
     have hcl:=hlc.len
     have hsu : growL g now (ks.take (j + 1)) out=grow1 g now (growL g now (ks.take j) out) (ks.getD j 0):=by rw [take_succ 0 ks j hjl]; simp [growL]
     obtain ⟨k0,kl,a0,a1,b0,b1⟩:=hed' _ hkm
     generalize hkj : ks.getD j 0=k at *
     generalize growL g now (ks.take j) out=cur at *
     have c2:=containsFuncR_ok cur (other g now k) (by omega)
     cases hb : hasV cur (other g now k) with
     | true =>
       rw [hb] at c2
       unfold grow1 at hsu
       rw [hb,if_pos rfl] at hsu
       unfold other at c2
       simp (disch:=first | omega | decide +kernel) only [el_eds,hkj,el_c0,el_c1,toNat_one,List.getElem?_cons_succ,List.getElem?_cons_zero,go_sem,Qa,Qb,Qc,Qd,Qe,↓reduceIte,reduceCtorEq,Qf,Qg,Qh]
       (repeat' (first | ((first | (refine gsel_split (fun q' => ?_) (fun q' => ?_)<;>(have h':=q')<;>(try simp only [za1,za2,Ba,Bb,za3,ne_eq,za4,za5,za6,Ia,Ib,Ic,Ie,Da,Bc,Bh,Be,za7,za8] at h')) | (have q':=trivial; first | refine callX_new (c2) rfl (by decide) ?_ | refine callY_new (c2) rfl ?_ | refine hE _ _ ret_ne ?_ | refine hE _ _ exit_ne ?_))<;>(try simp (disch:=first | omega | decide +kernel) only [q',el_eds,hkj,el_c0,el_c1,toNat_one,List.getElem?_cons_succ,List.getElem?_cons_zero,go_sem,Qa,Qb,Qc,Qd,Qe,↓reduceIte,reduceCtorEq,Qf,Qg,Qh])<;>clear q') | refine hN _ ?_ ?_ Wk.kk | with_reducible refine And.intro ?_ ?_ | with_reducible omega | exact ok_ints | exact cells_ints | exact no_mem | with_reducible exact plain_ints | (refine le_maxLen ?_; omega) | (refine za9 ⟨?_,?_⟩) | (simp only [go_sem,Qc,Qb,zb1,zb2,forall_eq]; done)))
       refine hN2 cur _ hjl hsu.symm (by refine Wk.auto ?_ ?_<;>simp [extraK,lk,killL,St.kill,wipeO,wipeS,AV.has,AV.hasL,AO.wipe,List.map_set,updSt,insL,dropS,ins,])
     | false =>
       rw [hb] at c2
       unfold grow1 at hsu
       rw [hb,if_neg (by simp)] at hsu
       unfold other at c2 hsu
       simp (disch:=first | omega | decide +kernel) only [el_eds,hkj,el_c0,el_c1,toNat_one,List.getElem?_cons_succ,List.getElem?_cons_zero,go_sem,Qa,Qb,Qc,Qd,Qe,↓reduceIte,reduceCtorEq,Qf,Qg,Qh]
       (repeat' (first | ((first | (refine gsel_split (fun q' => ?_) (fun q' => ?_)<;>(have h':=q')<;>(try simp only [za1,za2,Ba,Bb,za3,ne_eq,za4,za5,za6,Ia,Ib,Ic,Ie,Da,Bc,Bh,Be,za7,za8] at h')) | (have q':=trivial; first | refine callX_new (c2) rfl (by decide) ?_ | refine callY_new (c2) rfl ?_ | refine hE _ _ ret_ne ?_ | refine hE _ _ exit_ne ?_))<;>(try simp (disch:=first | omega | decide +kernel) only [q',el_eds,hkj,el_c0,el_c1,toNat_one,List.getElem?_cons_succ,List.getElem?_cons_zero,go_sem,Qa,Qb,Qc,Qd,Qe,↓reduceIte,reduceCtorEq,Qf,Qg,Qh])<;>clear q') | refine hN _ ?_ ?_ Wk.kk | with_reducible refine And.intro ?_ ?_ | with_reducible omega | exact ok_ints | exact cells_ints | exact no_mem | with_reducible exact plain_ints | (refine le_maxLen ?_; omega) | (refine za9 ⟨?_,?_⟩) | (simp only [go_sem,Qc,Qb,zb1,zb2,forall_eq]; done)))
       . exact ⟨rfl,fun c hc => by simp only [D.cells,List.mem_cons,List.not_mem_nil,or_false] at hc; rcases hc with rfl | rfl<;>rfl⟩
       . refine hN2 _ _ hjl hsu.symm (by refine Wk.auto ?_ ?_<;>simp [extraK,lk,killL,St.kill,wipeO,wipeS,AV.has,AV.hasL,AO.wipe,List.map_set,updSt,insL,dropS,ins,D.ed])
   . obtain rfl : j=ks.length:=by omega
     rw [List.take_length]
     simp (disch:=first | omega | decide +kernel) only [go_sem,Qa,Qb,Qc,Qd,Qe,↓reduceIte,reduceCtorEq,Qf,Qg,Qh]
     (repeat' (first | ((first | (refine gsel_split (fun q' => ?_) (fun q' => ?_)<;>(have h':=q')<;>(try simp only [za1,za2,Ba,Bb,za3,ne_eq,za4,za5,za6,Ia,Ib,Ic,Ie,Da,Bc,Bh,Be,za7,za8] at h')) | (have q':=trivial; first | refine hE _ _ ret_ne ?_ | refine hE _ _ exit_ne ?_))<;>(try simp (disch:=first | omega | decide +kernel) only [q',go_sem,Qa,Qb,Qc,Qd,Qe,↓reduceIte,reduceCtorEq,Qf,Qg,Qh])<;>clear q') | refine hN _ ?_ ?_ Wk.kk | with_reducible refine And.intro ?_ ?_ | with_reducible omega | exact ok_ints | exact cells_ints | exact no_mem | with_reducible exact plain_ints | (refine le_maxLen ?_; omega) | (refine za9 ⟨?_,?_⟩) | (simp only [go_sem,Qc,Qb,zb1,zb2,forall_eq]; done)))
     refine hN m (i + 1,growL g now ks out) _ (by omega) ⟨by simp only; omega,hgl,by simp only; omega,hfl⟩ (by refine Wk.auto ?_ ?_<;>simp [extraK,lk,killL,St.kill,wipeO,wipeS,AV.has,AV.hasL,AO.wipe,List.map_set,updSt,insL,dropS,ins,])
 . rw [lineF_end hlt] at hfl
   simp (disch:=first | omega | decide +kernel) only [go_sem,Qa,Qb,Qc,Qd,Qe,↓reduceIte,reduceCtorEq,Qf,Qg,Qh]
   (repeat' (first | ((first | (refine gsel_split (fun q' => ?_) (fun q' => ?_)<;>(have h':=q')<;>(try simp only [za1,za2,Ba,Bb,za3,ne_eq,za4,za5,za6,Ia,Ib,Ic,Ie,Da,Bc,Bh,Be,za7,za8] at h')) | (have q':=trivial; first | refine hE _ _ ret_ne ?_ | refine hE _ _ exit_ne ?_))<;>(try simp (disch:=first | omega | decide +kernel) only [q',go_sem,Qa,Qb,Qc,Qd,Qe,↓reduceIte,reduceCtorEq,Qf,Qg,Qh])<;>clear q') | refine hN _ ?_ ?_ Wk.kk | with_reducible refine And.intro ?_ ?_ | with_reducible omega | exact ok_ints | exact cells_ints | exact no_mem | with_reducible exact plain_ints | (refine le_maxLen ?_; omega) | (refine za9 ⟨?_,?_⟩) | (simp only [go_sem,Qc,Qb,zb1,zb2,forall_eq]; done)))
   rw [← hfl]
   exact ret_sl 13 rfl rfl plain_eds
end Abs.Y
