/- What functions of this program compute, over plain data. No condition. -/
import Derived.Test.YtckigpgkmdhfoaaFacts
import Derived.Test.YtckigpgkmdhfoaaAbsRow
set_option linter.all false
open Nat renaming reduceEqDiff -> Qa, reduceLT -> Qb, reduceAdd -> Qc, reduceMul -> Qd, reduceSub -> Qe, reduceLeDiff -> Qf, reduceSubDiff -> Qg, reduceBEq -> Qh
open Bool renaming not_eq_true' -> Ba, not_eq_false' -> Bb, and_eq_true -> Bc, or_eq_true -> Bh, or_eq_false_iff -> Be
open Int renaming ofNat_lt -> Ia, ofNat_le -> Ib, not_lt -> Ic, not_le -> Ie
open Decidable renaming not_not -> Da
namespace Abs.Y
open Go Go.Proofs Abs
set_option maxRecDepth 100000

theorem within_ok (n lo hi : Int) : Ctr Try.prog 48 [.int .i64 n,.int .i64 lo,.int .i64 hi] false (.d (.bool (decide (lo<=n) && decide (n<=hi)))) []:=by
 refine Ctr.of (n:=15) (rs:=[.tmp 6]) Try.func48 rfl rfl Try.ntmps48 rfl rfl (by kernel_rfl) Try.checked.mixed ?_
 simp (disch:=first | omega | decide +kernel) only [go_sem,Qa,Qb,Qc,Qd,Qe,↓reduceIte,reduceCtorEq,Qf,Qg,Qh]
 (repeat' (first | ((first | (refine gsel_split (fun q' => ?_) (fun q' => ?_)<;>(have h':=q')<;>(try simp only [za1,za2,Ba,Bb,za3,ne_eq,za4,za5,za6,Ia,Ib,Ic,Ie,Da,Bc,Bh,Be,za7,za8] at h')) | (have q':=trivial; first | refine hE _ _ ret_ne ?_ | refine hE _ _ exit_ne ?_))<;>(try simp (disch:=first | omega | decide +kernel) only [q',go_sem,Qa,Qb,Qc,Qd,Qe,↓reduceIte,reduceCtorEq,Qf,Qg,Qh])<;>clear q') | refine hN _ ?_ ?_ Wk.kk | with_reducible refine And.intro ?_ ?_ | with_reducible omega | exact ok_ints | exact cells_ints | exact no_mem | with_reducible exact plain_ints | (refine le_maxLen ?_; omega) | (refine za9 ⟨?_,?_⟩) | (simp only [go_sem,Qc,Qb,zb1,zb2,forall_eq]; done)))
theorem l1In_ok (x a b : Int) : Ctr Try.prog 96 [.int .i64 x,.int .i64 a,.int .i64 b] false (.d (.bool (decide (a<=x) && decide (x<=b)))) []:=by
 refine Ctr.of (n:=15) (rs:=[.tmp 6]) Try.func96 rfl rfl Try.ntmps96 rfl rfl (by kernel_rfl) Try.checked.mixed ?_
 simp (disch:=first | omega | decide +kernel) only [go_sem,Qa,Qb,Qc,Qd,Qe,↓reduceIte,reduceCtorEq,Qf,Qg,Qh]
 (repeat' (first | ((first | (refine gsel_split (fun q' => ?_) (fun q' => ?_)<;>(have h':=q')<;>(try simp only [za1,za2,Ba,Bb,za3,ne_eq,za4,za5,za6,Ia,Ib,Ic,Ie,Da,Bc,Bh,Be,za7,za8] at h')) | (have q':=trivial; first | refine hE _ _ ret_ne ?_ | refine hE _ _ exit_ne ?_))<;>(try simp (disch:=first | omega | decide +kernel) only [q',go_sem,Qa,Qb,Qc,Qd,Qe,↓reduceIte,reduceCtorEq,Qf,Qg,Qh])<;>clear q') | refine hN _ ?_ ?_ Wk.kk | with_reducible refine And.intro ?_ ?_ | with_reducible omega | exact ok_ints | exact cells_ints | exact no_mem | with_reducible exact plain_ints | (refine le_maxLen ?_; omega) | (refine za9 ⟨?_,?_⟩) | (simp only [go_sem,Qc,Qb,zb1,zb2,forall_eq]; done)))
def absI (n : Int) : Int:=if IntKind.i64.wrap (0 - n) > n then IntKind.i64.wrap (0 - n) else n
theorem abs_ok (n : Int) : Ctr Try.prog 113 [.int .i64 n] false (.d (.int .i64 (absI n))) []:=by
 refine Ctr.of (n:=7) (rs:=[.tmp 2]) Try.func113 rfl rfl Try.ntmps113 rfl rfl (by kernel_rfl) Try.checked.mixed ?_
 simp (disch:=first | omega | decide +kernel) only [go_sem,Qa,Qb,Qc,Qd,Qe,↓reduceIte,reduceCtorEq,Qf,Qg,Qh]
 simp [absI]
def varI (n : Int) : Int:=if n < 0 then IntKind.i64.wrap (0 - n) else n
theorem l2Var_ok (n : Int) : Ctr Try.prog 119 [.int .i64 n] false (.d (.int .i64 (varI n))) []:=by
 refine Ctr.of (n:=8) (rs:=[.tmp 2]) Try.func119 rfl rfl Try.ntmps119 rfl rfl (by kernel_rfl) Try.checked.mixed ?_
 simp (disch:=first | omega | decide +kernel) only [go_sem,Qa,Qb,Qc,Qd,Qe,↓reduceIte,reduceCtorEq,Qf,Qg,Qh]
 (repeat' (first | ((first | (refine gsel_split (fun q' => ?_) (fun q' => ?_)<;>(have h':=q')<;>(try simp only [za1,za2,Ba,Bb,za3,ne_eq,za4,za5,za6,Ia,Ib,Ic,Ie,Da,Bc,Bh,Be,za7,za8] at h')) | (have q':=trivial; first | refine hE _ _ ret_ne ?_ | refine hE _ _ exit_ne ?_))<;>(try simp (disch:=first | omega | decide +kernel) only [q',go_sem,Qa,Qb,Qc,Qd,Qe,↓reduceIte,reduceCtorEq,Qf,Qg,Qh])<;>clear q') | refine hN _ ?_ ?_ Wk.kk | with_reducible refine And.intro ?_ ?_ | with_reducible omega | exact ok_ints | exact cells_ints | exact no_mem | with_reducible exact plain_ints | (refine le_maxLen ?_; omega) | (refine za9 ⟨?_,?_⟩) | (simp only [go_sem,Qc,Qb,zb1,zb2,forall_eq]; done)))
 . simp [varI,h',D.plain]
 . simp [varI,Ic.2 h',D.plain]
def okVars (v : Int) : Bool:=decide (0<=v) && decide (v<=12)
theorem varsOk_ok (v : Int) : Ctr Try.prog 100 [.int .i64 v] false (.d (.bool (okVars v))) []:=by
 refine Ctr.of (n:=5) (rs:=[.tmp 2]) Try.func100 rfl rfl Try.ntmps100 rfl rfl (by kernel_rfl) Try.checked.mixed ?_
 simp (disch:=first | omega | decide +kernel) only [go_sem,Qa,Qb,Qc,Qd,Qe,↓reduceIte,reduceCtorEq,Qf,Qg,Qh]
 (repeat' (first | ((first | (refine gsel_split (fun q' => ?_) (fun q' => ?_)<;>(have h':=q')<;>(try simp only [za1,za2,Ba,Bb,za3,ne_eq,za4,za5,za6,Ia,Ib,Ic,Ie,Da,Bc,Bh,Be,za7,za8] at h')) | (have q':=trivial; first | refine callX_new (within_ok _ _ _) rfl (by decide) ?_ | refine callY_new (within_ok _ _ _) rfl ?_ | refine hE _ _ ret_ne ?_ | refine hE _ _ exit_ne ?_))<;>(try simp (disch:=first | omega | decide +kernel) only [q',go_sem,Qa,Qb,Qc,Qd,Qe,↓reduceIte,reduceCtorEq,Qf,Qg,Qh])<;>clear q') | refine hN _ ?_ ?_ Wk.kk | with_reducible refine And.intro ?_ ?_ | with_reducible omega | exact ok_ints | exact cells_ints | exact no_mem | with_reducible exact plain_ints | (refine le_maxLen ?_; omega) | (refine za9 ⟨?_,?_⟩) | (simp only [go_sem,Qc,Qb,zb1,zb2,forall_eq]; done)))
 rfl
theorem l2Vars_ok (v : Int) : Ctr Try.prog 117 [.int .i64 v] false (.d (.bool (okVars v))) []:=by
 refine Ctr.of (n:=5) (rs:=[.tmp 2]) Try.func117 rfl rfl Try.ntmps117 rfl rfl (by kernel_rfl) Try.checked.mixed ?_
 simp (disch:=first | omega | decide +kernel) only [go_sem,Qa,Qb,Qc,Qd,Qe,↓reduceIte,reduceCtorEq,Qf,Qg,Qh]
 (repeat' (first | ((first | (refine gsel_split (fun q' => ?_) (fun q' => ?_)<;>(have h':=q')<;>(try simp only [za1,za2,Ba,Bb,za3,ne_eq,za4,za5,za6,Ia,Ib,Ic,Ie,Da,Bc,Bh,Be,za7,za8] at h')) | (have q':=trivial; first | refine callX_new (l1In_ok _ _ _) rfl (by decide) ?_ | refine callY_new (l1In_ok _ _ _) rfl ?_ | refine hE _ _ ret_ne ?_ | refine hE _ _ exit_ne ?_))<;>(try simp (disch:=first | omega | decide +kernel) only [q',go_sem,Qa,Qb,Qc,Qd,Qe,↓reduceIte,reduceCtorEq,Qf,Qg,Qh])<;>clear q') | refine hN _ ?_ ?_ Wk.kk | with_reducible refine And.intro ?_ ?_ | with_reducible omega | exact ok_ints | exact cells_ints | exact no_mem | with_reducible exact plain_ints | (refine le_maxLen ?_; omega) | (refine za9 ⟨?_,?_⟩) | (simp only [go_sem,Qc,Qb,zb1,zb2,forall_eq]; done)))
 rfl
def okLit (v l : Int) : Bool:=decide (l ≠ 0) && (decide (IntKind.i64.wrap (0 - v)<=l) && decide (l<=v))
theorem isLiteral_ok (v l : Int) : Ctr Try.prog 112 [.int .i64 v,.int .i64 l] false (.d (.bool (okLit v l))) []:=by
 refine Ctr.of (n:=14) (rs:=[.tmp 4]) Try.func112 rfl rfl Try.ntmps112 rfl rfl (by kernel_rfl) Try.checked.mixed ?_
 simp (disch:=first | omega | decide +kernel) only [go_sem,Qa,Qb,Qc,Qd,Qe,↓reduceIte,reduceCtorEq,Qf,Qg,Qh]
 (repeat' (first | ((first | (refine gsel_split (fun q' => ?_) (fun q' => ?_)<;>(have h':=q')<;>(try simp only [za1,za2,Ba,Bb,za3,ne_eq,za4,za5,za6,Ia,Ib,Ic,Ie,Da,Bc,Bh,Be,za7,za8] at h')) | (have q':=trivial; first | refine callX_new (within_ok _ _ _) rfl (by decide) ?_ | refine callY_new (within_ok _ _ _) rfl ?_ | refine hE _ _ ret_ne ?_ | refine hE _ _ exit_ne ?_))<;>(try simp (disch:=first | omega | decide +kernel) only [q',go_sem,Qa,Qb,Qc,Qd,Qe,↓reduceIte,reduceCtorEq,Qf,Qg,Qh])<;>clear q') | refine hN _ ?_ ?_ Wk.kk | with_reducible refine And.intro ?_ ?_ | with_reducible omega | exact ok_ints | exact cells_ints | exact no_mem | with_reducible exact plain_ints | (refine le_maxLen ?_; omega) | (refine za9 ⟨?_,?_⟩) | (simp only [go_sem,Qc,Qb,zb1,zb2,forall_eq]; done)))
 . simp [okLit,h']
 . simp [okLit,h']
theorem l2Lit_ok (v l : Int) : Ctr Try.prog 118 [.int .i64 v,.int .i64 l] false (.d (.bool (okLit v l))) []:=by
 refine Ctr.of (n:=14) (rs:=[.tmp 4]) Try.func118 rfl rfl Try.ntmps118 rfl rfl (by kernel_rfl) Try.checked.mixed ?_
 simp (disch:=first | omega | decide +kernel) only [go_sem,Qa,Qb,Qc,Qd,Qe,↓reduceIte,reduceCtorEq,Qf,Qg,Qh]
 (repeat' (first | ((first | (refine gsel_split (fun q' => ?_) (fun q' => ?_)<;>(have h':=q')<;>(try simp only [za1,za2,Ba,Bb,za3,ne_eq,za4,za5,za6,Ia,Ib,Ic,Ie,Da,Bc,Bh,Be,za7,za8] at h')) | (have q':=trivial; first | refine callX_new (l1In_ok _ _ _) rfl (by decide) ?_ | refine callY_new (l1In_ok _ _ _) rfl ?_ | refine hE _ _ ret_ne ?_ | refine hE _ _ exit_ne ?_))<;>(try simp (disch:=first | omega | decide +kernel) only [q',go_sem,Qa,Qb,Qc,Qd,Qe,↓reduceIte,reduceCtorEq,Qf,Qg,Qh])<;>clear q') | refine hN _ ?_ ?_ Wk.kk | with_reducible refine And.intro ?_ ?_ | with_reducible omega | exact ok_ints | exact cells_ints | exact no_mem | with_reducible exact plain_ints | (refine le_maxLen ?_; omega) | (refine za9 ⟨?_,?_⟩) | (simp only [go_sem,Qc,Qb,zb1,zb2,forall_eq]; done)))
 . simp [okLit,h',← Int.zero_sub]
   rfl
 . simp [okLit,h',← Int.zero_sub]
def okAt (v : Int) (c : List Int) (j : Nat) : Prop:=(c.getD j 0 ≠ 0∧-v<=c.getD j 0∧c.getD j 0<=v)∧(0 < j->(c.getD (j - 1) 0).natAbs < (c.getD j 0).natAbs)
instance (v c j) : Decidable (okAt v c j):=by unfold okAt; infer_instance
def okClause (v : Int) (c : List Int) : Bool:=okVars v && decide (∀ j,j < c.length->okAt v c j)
theorem okVars_iff {v : Int} : okVars v=true↔0<=v∧v<=12:=by simp [okVars]
theorem okLit_iff {v l : Int} (h : okVars v=true) : okLit v l=true↔l ≠ 0∧-v<=l∧l<=v:=by
 rw [okVars_iff] at h
 simp only [okLit,wrap_of (n:=0 - v) (by omega)]; simp
theorem absI_eq {n : Int} (h : -9223372036854775807<=n∧n<=9223372036854775807) : absI n=n.natAbs:=by
 rw [absI,wrap_of (n:=0 - n) (by omega)]; split<;>omega
theorem varI_eq {n : Int} (h : -9223372036854775807<=n∧n<=9223372036854775807) : varI n=n.natAbs:=by
 rw [varI,wrap_of (n:=0 - n) (by omega)]; split<;>omega
theorem okClause_false {v : Int} {c : List Int} {i : Nat} (hi : i < c.length) (h : okVars v=true->¬ okAt v c i) : okClause v c=false:=by
 cases hv : okVars v with
 | false => simp [okClause,hv]
 | true =>
   have : ¬ ∀ j,j < c.length->okAt v c j:=fun hh => h hv (hh i hi)
   simp only [okClause,this,decide_false,Bool.and_false]
theorem okClause_true {v : Int} {c : List Int} (h : okVars v=true->∀ j,j < c.length->okAt v c j) : okClause v c=okVars v:=by
 cases hv : okVars v with
 | false => simp [okClause,hv]
 | true =>
   have:=decide_eq_true (h hv)
   rw [okClause,this,hv,Bool.and_true]
theorem okAt_small {v : Int} {c : List Int} {j : Nat} (hv : okVars v=true) (h : okAt v c j) : -12<=c.getD j 0∧c.getD j 0<=12:=by
 rw [okVars_iff] at hv; obtain ⟨⟨_,_,_⟩,_⟩:=h; omega
theorem okAt_abs {v : Int} {c : List Int} {i : Nat} (f : Int->Int) (hf : ∀ n,-9223372036854775807<=n∧n<=9223372036854775807->f n=n.natAbs) (hv : okVars v=true) (hI : ∀ j,j < i->okAt v c j) (hl : okLit v (c.getD i 0)=true) :
 okAt v c i↔(0 < i->f (c.getD (i - 1) 0) < f (c.getD i 0)):=by
 rw [okLit_iff hv] at hl
 have hv':=okVars_iff.1 hv
 rw [okAt,and_iff_right hl]
 refine imp_congr_right fun h0 => ?_
 have h1:=okAt_small hv (hI (i - 1) (by omega))
 rw [hf _ (by omega),hf (c.getD i 0) (by omega)]
 omega
theorem isClause_ok (v : Int) (c : List Int) (hl : c.length<=4294967296) : Ctr Try.prog 57 [.int .i64 v,.ints c] false (.d (.bool (okClause v c))) []:=by
 refine Ctr.of (n:=36) (rs:=[.tmp 4]) Try.func57 rfl rfl Try.ntmps57 rfl rfl (by kernel_rfl) Try.checked.mixed ?_
 simp (disch:=first | omega | decide +kernel) only [D.ints,go_sem,Qa,Qb,Qc,Qd,Qe,↓reduceIte,reduceCtorEq,Qf,Qg,Qh]
 refine Ok.loopC [33,32,31,30,29,28,27,26,25,24,23,22,21,20,19,18,17,16,15,14,13,12,11,10,9,6,5,4,3,2] (fun i => [(9,.d (.int .i64 (i : Nat)))]) c.length (fun i => okVars v=true->∀ j,j < i->okAt v c j) (by simp) (Wk.kk) ?_
 intro R i hN hE hi hI
 simp (disch:=first | omega | decide +kernel) only [go_sem,Qa,Qb,Qc,Qd,Qe,↓reduceIte,reduceCtorEq,Qf,Qg,Qh]
 (repeat' (first | ((first | (refine gsel_split (fun q' => ?_) (fun q' => ?_)<;>(have h':=q')<;>(try simp only [za1,za2,Ba,Bb,za3,ne_eq,za4,za5,za6,Ia,Ib,Ic,Ie,Da,Bc,Bh,Be,za7,za8] at h')) | (have q':=trivial; first | refine callX_new (isLiteral_ok _ _) rfl (by decide) ?_ | refine callY_new (isLiteral_ok _ _) rfl ?_ | refine callX_new (abs_ok _) rfl (by decide) ?_ | refine callY_new (abs_ok _) rfl ?_ | refine callX_new (varsOk_ok _) rfl (by decide) ?_ | refine callY_new (varsOk_ok _) rfl ?_ | refine hE _ _ ret_ne ?_ | refine hE _ _ exit_ne ?_))<;>(try simp (disch:=first | omega | decide +kernel) only [q',go_sem,Qa,Qb,Qc,Qd,Qe,↓reduceIte,reduceCtorEq,Qf,Qg,Qh])<;>clear q') | refine hN _ ?_ ?_ Wk.kk | with_reducible refine And.intro ?_ ?_ | with_reducible omega | exact ok_ints | exact cells_ints | exact no_mem | with_reducible exact plain_ints | (refine le_maxLen ?_; omega) | (refine za9 ⟨?_,?_⟩) | (simp only [go_sem,Qc,Qb,zb1,zb2,forall_eq]; done)))
 . rename_i h1
   rw [okClause_false h1 fun hv h => by rw [(okLit_iff hv).2 h.1] at h'; cases h']
 . rename_i h1 h2 h3
   rw [okClause_false h1 fun hv h => by rw [okAt_abs absI (fun n => absI_eq) hv (hI hv) h2] at h; omega]
 . rename_i h1 h2 h3
   exact fun hv => all_succ (hI hv) ((okAt_abs absI (fun n => absI_eq) hv (hI hv) h2).2 fun _ => h')
 . rename_i h1 h2
   exact fun hv => all_succ (hI hv) ⟨(okLit_iff hv).1 h2,fun h => by omega⟩
 . rw [okClause_true fun hv j hj => hI hv j (by omega)]
theorem l2Clause_ok (v : Int) (c : List Int) (hl : c.length<=4294967296) : Ctr Try.prog 61 [.int .i64 v,.ints c] false (.d (.bool (okClause v c))) []:=by
 refine Ctr.of (n:=40) (rs:=[.tmp 4]) Try.func61 rfl rfl Try.ntmps61 rfl rfl (by kernel_rfl) Try.checked.mixed ?_
 simp (disch:=first | omega | decide +kernel) only [D.ints,go_sem,Qa,Qb,Qc,Qd,Qe,↓reduceIte,reduceCtorEq,Qf,Qg,Qh]
 (repeat' (first | ((first | (refine gsel_split (fun q' => ?_) (fun q' => ?_)<;>(have h':=q')<;>(try simp only [za1,za2,Ba,Bb,za3,ne_eq,za4,za5,za6,Ia,Ib,Ic,Ie,Da,Bc,Bh,Be,za7,za8] at h')) | (have q':=trivial; first | refine callX_new (l2Vars_ok _) rfl (by decide) ?_ | refine callY_new (l2Vars_ok _) rfl ?_ | refine hE _ _ ret_ne ?_ | refine hE _ _ exit_ne ?_))<;>(try simp (disch:=first | omega | decide +kernel) only [q',go_sem,Qa,Qb,Qc,Qd,Qe,↓reduceIte,reduceCtorEq,Qf,Qg,Qh])<;>clear q') | refine hN _ ?_ ?_ Wk.kk | with_reducible refine And.intro ?_ ?_ | with_reducible omega | exact ok_ints | exact cells_ints | exact no_mem | with_reducible exact plain_ints | (refine le_maxLen ?_; omega) | (refine za9 ⟨?_,?_⟩) | (simp only [go_sem,Qc,Qb,zb1,zb2,forall_eq]; done)))
 . simp [okClause,h',D.plain]
 refine Ok.loopC [39,38,37,36,35,34,33,32,31,30,29,28,27,26,25,24,23,22,21,20,19,18,17,16,15,14,13,12,11,10,9,8,7,6,5,4,3,2] (fun i => [(5,.d (.int .i64 (i : Nat)))]) c.length (fun i => ∀ j,j < i->okAt v c j) (by simp) (Wk.kk) ?_
 intro R i hN hE hi hI
 simp (disch:=first | omega | decide +kernel) only [go_sem,Qa,Qb,Qc,Qd,Qe,↓reduceIte,reduceCtorEq,Qf,Qg,Qh]
 (repeat' (first | ((first | (refine gsel_split (fun q' => ?_) (fun q' => ?_)<;>(have h':=q')<;>(try simp only [za1,za2,Ba,Bb,za3,ne_eq,za4,za5,za6,Ia,Ib,Ic,Ie,Da,Bc,Bh,Be,za7,za8] at h')) | (have q':=trivial; first | refine callX_new (l2Lit_ok _ _) rfl (by decide) ?_ | refine callY_new (l2Lit_ok _ _) rfl ?_ | refine callX_new (l2Var_ok _) rfl (by decide) ?_ | refine callY_new (l2Var_ok _) rfl ?_ | refine hE _ _ ret_ne ?_ | refine hE _ _ exit_ne ?_))<;>(try simp (disch:=first | omega | decide +kernel) only [q',go_sem,Qa,Qb,Qc,Qd,Qe,↓reduceIte,reduceCtorEq,Qf,Qg,Qh])<;>clear q') | refine hN _ ?_ ?_ Wk.kk | with_reducible refine And.intro ?_ ?_ | with_reducible omega | exact ok_ints | exact cells_ints | exact no_mem | with_reducible exact plain_ints | (refine le_maxLen ?_; omega) | (refine za9 ⟨?_,?_⟩) | (simp only [go_sem,Qc,Qb,zb1,zb2,forall_eq]; done)))
 . rename_i hv h1
   rw [okClause_false h1 fun hv h => by rw [(okLit_iff hv).2 h.1] at h'; cases h']
 . rename_i hv h1 h2 h3
   rw [okClause_false h1 fun hv h => by rw [okAt_abs varI (fun n => varI_eq) hv hI h2] at h; omega]
 . rename_i hv h1 h2 h3
   exact all_succ hI ((okAt_abs varI (fun n => varI_eq) hv hI h2).2 fun _ => h')
 . rename_i hv h1 h2
   exact all_succ hI ⟨(okLit_iff hv).1 h2,fun h => by omega⟩
 . rename_i hv
   rw [okClause_true fun hv j hj => hI j (by omega),hv]
end Abs.Y

namespace Abs
open Go Go.RowKit

theorem ofInt_nat (a : Nat) : BitVec.ofInt 64 (a : Int)=BitVec.ofNat 64 a:=by
 apply BitVec.eq_of_toNat_eq; simp [BitVec.toNat_ofInt]
theorem bitV_and {a b : Nat} (ha : a < 2 ^ 63) (hb : b < 2 ^ 63) : bitV .and .i64 a b=((a &&& b : Nat) : Int):=by
 have h : a &&& b < 2 ^ 63:=Nat.and_lt_two_pow _ hb
 show IntKind.wrap .i64 (((BitVec.ofInt 64 (a : Int)) &&& (BitVec.ofInt 64 (b : Int))).toNat : Nat)=_
 rw [ofInt_nat,ofInt_nat,BitVec.toNat_and,BitVec.toNat_ofNat,BitVec.toNat_ofNat,Nat.mod_eq_of_lt (by omega),Nat.mod_eq_of_lt (by omega),wrap_of (by omega)]
theorem bitV_or {a b : Nat} (ha : a < 2 ^ 63) (hb : b < 2 ^ 63) : bitV .or .i64 a b=((a ||| b : Nat) : Int):=by
 have h : a ||| b < 2 ^ 63:=Nat.or_lt_two_pow ha hb
 show IntKind.wrap .i64 (((BitVec.ofInt 64 (a : Int)) ||| (BitVec.ofInt 64 (b : Int))).toNat : Nat)=_
 rw [ofInt_nat,ofInt_nat,BitVec.toNat_or,BitVec.toNat_ofNat,BitVec.toNat_ofNat,Nat.mod_eq_of_lt (by omega),Nat.mod_eq_of_lt (by omega),wrap_of (by omega)]
theorem shl_one {e : Nat} (he : e<=62) : IntKind.wrap .i64 (1 * 2 ^ min e (IntKind.bits .i64))=((2 ^ e : Nat) : Int):=by
 have h : 2 ^ e<=2 ^ 62:=Nat.pow_le_pow_right (by decide) he
 rw [show min e (IntKind.bits .i64)=e by simp [IntKind.bits]; omega,Int.one_mul]
 have e1 : ((2 : Int) ^ e)=((2 ^ e : Nat) : Int):=by simp
 rw [e1]
 generalize 2 ^ e=x at *
 rw [wrap_of (by omega)]
theorem shr_nat {b e : Nat} (he : e<=62) : (b : Int).fdiv (2 ^ min e (IntKind.bits .i64))=((b >>> e : Nat) : Int):=by
 rw [show min e (IntKind.bits .i64)=e by simp [IntKind.bits]; omega]
 have e1 : ((2 : Int) ^ e)=((2 ^ e : Nat) : Int):=by simp
 rw [e1,Nat.shiftRight_eq_div_pow]
 rw [Int.fdiv_eq_ediv_of_nonneg _ (Int.natCast_nonneg _)]; simp
def bitI (b k : Nat) : Int:=if b.testBit k then 1 else 0
theorem bit_of {b k : Nat} (hk : k<=62) (hb : b < 2 ^ 63) : bitV .and .i64 ((b : Int).fdiv (2 ^ min k (IntKind.bits .i64))) 1=bitI b k:=by
 rw [shr_nat hk]
 have h : b >>> k < 2 ^ 63:=Nat.lt_of_le_of_lt (Nat.shiftRight_le b k) hb
 have:=bitV_and h (b:=1) (by decide)
 rw [show ((1 : Nat) : Int)=1 from rfl] at this
 rw [this,Nat.and_one_is_mod]
 unfold bitI
 rw [Nat.testBit,Nat.one_and_eq_mod_two,bne]
 rcases Nat.mod_two_eq_zero_or_one (b >>> k) with h | h<;>simp [h]
end Abs

namespace Abs.Y
open Go Go.Proofs Abs
set_option maxRecDepth 100000

def Vec (p : Int) (n : Nat) (v : List Int) : Prop:=v.length=n∧∀ i,0<=v.getD i 0∧v.getD i 0 < p
def stP (p : Int) (v : List Int) (m : Nat) (c : Int) : List Int:=v.set m ((v.getD m 0 + c) % p)
theorem getD_set (v : List Int) (m : Nat) (x : Int) (i : Nat) : (v.set m x).getD i 0=if m=i∧i < v.length then x else v.getD i 0:=by
 rw [List.getD_eq_getElem?_getD,List.getElem?_set,List.getD_eq_getElem?_getD]
 by_cases e : m=i
 . subst e
   by_cases h : m < v.length
   . simp [h]
   . simp [h]
 . simp [e]
theorem Vec.st {p : Int} {n : Nat} {v : List Int} (hp : 0 < p) (h : Vec p n v) (m : Nat) (c : Int) : Vec p n (stP p v m c):=by
 refine ⟨by simp [stP,h.1],fun i => ?_⟩
 rw [stP,getD_set]
 split
 . exact ⟨Int.emod_nonneg _ (by omega),Int.emod_lt_of_pos _ hp⟩
 . exact h.2 i
theorem Vec.zero {p : Int} (hp : 0 < p) (n : Nat) : Vec p n (List.replicate n 0):=by
 refine ⟨by simp,fun i => ?_⟩
 rw [List.getD_eq_getElem?_getD,List.getElem?_replicate]
 split<;>simp<;>omega
theorem st_zero {p : Int} {n : Nat} {v : List Int} (h : Vec p n v) (m : Nat) : stP p v m 0=v:=by
 have hm:=h.2 m
 unfold stP
 rw [Int.add_zero,Int.emod_eq_of_lt hm.1 hm.2]
 by_cases hl : m < v.length
 . rw [List.getD_eq_getElem?_getD,List.getElem?_eq_getElem hl,Option.getD_some,List.set_getElem_self]
 . rw [List.set_eq_of_length_le (by omega)]
def spT (v : List Int) : List (Int × Int):=((List.range v.length).filter fun m => decide (v.getD m 0 ≠ 0)).map fun m : Nat => ((m : Int),v.getD m 0)
theorem fold_sp {α : Type} (I : α->Prop) (g : α->Nat->Int->α) (v : List Int) (hI : ∀ a m c,I a->I (g a m c)) (h0 : ∀ a m,I a->g a m 0=a) :
 ∀ (r : List Nat) (a : α),I a->((r.filter fun m => decide (v.getD m 0 ≠ 0)).map fun m : Nat => ((m : Int),v.getD m 0)).foldl (fun a (t : Int × Int) => g a t.1.toNat t.2) a=r.foldl (fun a m => g a m (v.getD m 0)) a
 | [],_,_ => rfl
 | m :: r, a, ha => by
   by_cases hz : v.getD m 0=0
   . rw [List.filter_cons_of_neg (by rw [decide_eq_true_eq]; exact fun h => h hz),List.foldl_cons,hz,h0 a m ha]
     exact fold_sp I g v hI h0 r a ha
   . rw [List.filter_cons_of_pos (by rw [decide_eq_true_eq]; exact hz),List.map_cons,List.foldl_cons,List.foldl_cons]
     simp only [Int.toNat_natCast]
     exact fold_sp I g v hI h0 r _ (hI a m _ ha)
def rowD (p : Int) (b : List Int) (m : Nat) (c : Int) (v : List Int) : List Int:=(List.range b.length).foldl (fun v n => stP p v (m ||| n) (c * b.getD n 0)) v
def mulD (p : Int) (n : Nat) (a b : List Int) : List Int:=(List.range a.length).foldl (fun v m => rowD p b m (a.getD m 0) v) (List.replicate n 0)
def rowS (p : Int) (b : List (Int × Int)) (m : Nat) (c : Int) (v : List Int) : List Int:=b.foldl (fun v (t : Int × Int) => stP p v (m ||| t.1.toNat) (c * t.2)) v
def mulS (p : Int) (n : Nat) (a b : List (Int × Int)) : List Int:=a.foldl (fun v (s : Int × Int) => rowS p b s.1.toNat s.2 v) (List.replicate n 0)
theorem fold_vec {α : Type} {p : Int} {n : Nat} {f : List Int->α->List Int} (hf : ∀ v x,Vec p n v->Vec p n (f v x)) : ∀ (r : List α) {v : List Int},Vec p n v->Vec p n (r.foldl f v)
 | [],_,h => h
 | x :: r,v,h => fold_vec hf r (hf v x h)
theorem Vec.rowS {p : Int} {n : Nat} {v : List Int} (hp : 0 < p) (h : Vec p n v) (b : List (Int × Int)) (m : Nat) (c : Int) : Vec p n (rowS p b m c v) :=
 fold_vec (fun v t h => h.st hp _ _) b h
theorem Vec.rowD {p : Int} {n : Nat} {v : List Int} (hp : 0 < p) (h : Vec p n v) (b : List Int) (m : Nat) (c : Int) : Vec p n (rowD p b m c v) :=
 fold_vec (fun v t h => h.st hp _ _) _ h
theorem Vec.mulD {p : Int} (hp : 0 < p) (n : Nat) (a b : List Int) : Vec p n (mulD p n a b):=fold_vec (fun v m h => h.rowD hp b m _) _ (Vec.zero hp n)
theorem row_eq {p : Int} {n : Nat} {b : List Int} (hp : 0 < p) {v : List Int} (h : Vec p n v) (m : Nat) (c : Int) : rowS p (spT b) m c v=rowD p b m c v:=by
 refine fold_sp (Vec p n) (fun v k d => stP p v (m ||| k) (c * d)) b (fun v k d h => h.st hp _ _) (fun v k h => ?_) (List.range b.length) v h
 show stP p v (m ||| k) (c * 0)=v
 rw [Int.mul_zero]; exact st_zero h _
theorem row_zero {p : Int} {n : Nat} {v : List Int} (h : Vec p n v) (b : List (Int × Int)) (m : Nat) : rowS p b m 0 v=v:=by
 induction b with
 | nil => rfl
 | cons t r ih =>
   show rowS p r m 0 (stP p v (m ||| t.1.toNat) (0 * t.2))=v
   rw [Int.zero_mul,st_zero h]; exact ih
theorem mul_eq {p : Int} {n : Nat} {a b : List Int} (hp : 0 < p) : mulS p n (spT a) (spT b)=mulD p n a b:=by
 have h1:=fold_sp (Vec p n) (fun v m c => rowS p (spT b) m c v) a (fun v m c h => h.rowS hp _ m c) (fun v m h => row_zero h _ m) (List.range a.length) (List.replicate n 0) (Vec.zero hp n)
 show (spT a).foldl _ _=_
 refine Eq.trans h1 ?_
 unfold mulD
 have : ∀ (r : List Nat) (v : List Int),Vec p n v->r.foldl (fun v m => rowS p (spT b) m (a.getD m 0) v) v=r.foldl (fun v m => rowD p b m (a.getD m 0) v) v:=by
  intro r
  induction r with
  | nil => intro v _; rfl
  | cons m r ih =>
    intro v h
    rw [List.foldl_cons,List.foldl_cons,row_eq hp h]
    exact ih _ (h.rowD hp b m _)
 exact this _ _ (Vec.zero hp n)
def addD (p k : Int) (a b : List Int) : List Int:=List.zipWith (fun x y => (x + k * y) % p) a b
theorem getD_zip (f : Int->Int->Int) (a b : List Int) (h : a.length=b.length) (i : Nat) (hi : i < a.length) : (List.zipWith f a b).getD i 0=f (a.getD i 0) (b.getD i 0):=by
 simp only [List.getD_eq_getElem?_getD,List.getElem?_zipWith]
 rw [List.getElem?_eq_getElem (by omega),List.getElem?_eq_getElem (by omega)]; rfl
theorem Vec.addD {p k : Int} {n : Nat} {a b : List Int} (hp : 0 < p) (ha : a.length=n) (hb : b.length=n) : Vec p n (addD p k a b):=by
 refine ⟨by simp [Y.addD,ha,hb],fun i => ?_⟩
 by_cases hi : i < a.length
 . rw [Y.addD,getD_zip _ _ _ (by omega) i hi]
   exact ⟨Int.emod_nonneg _ (by omega),Int.emod_lt_of_pos _ hp⟩
 . rw [List.getD_eq_getElem?_getD,List.getElem?_eq_none (by simp [Y.addD]; omega)]; simp; omega
end Abs.Y

namespace Abs.Y
open Go Go.Proofs Abs
set_option maxRecDepth 100000

def idxI (p : Int->Bool) (xs : List Int) : Int:=match xs.findIdx? p with | some i => (i : Nat) | none => -1
theorem idxI_some {p : Int->Bool} {xs : List Int} {i : Nat} (h : i < xs.length) (hp : p (xs.getD i 0)=true) (hn : ∀ j,j < i->p (xs.getD j 0)=false) : idxI p xs=i:=by
 have : xs.findIdx? p=some i:=by
  rw [List.findIdx?_eq_some_iff_getElem]
  refine ⟨h,by simpa [List.getD_eq_getElem?_getD,h] using hp,fun j hj => ?_⟩
  have h2 : j < xs.length:=by omega
  simpa [List.getD_eq_getElem?_getD,h2] using hn j hj
 rw [idxI,this]
theorem idxI_none {p : Int->Bool} {xs : List Int} (hn : ∀ j,j < xs.length->p (xs.getD j 0)=false) : idxI p xs=-1:=by
 have : xs.findIdx? p=none:=by
  rw [List.findIdx?_eq_none_iff]
  intro x hx
  obtain ⟨j,hj,rfl⟩:=List.getElem_of_mem hx
  have:=hn j hj
  simpa [List.getD_eq_getElem?_getD,hj] using this
 rw [idxI,this]
theorem idxI_ge {p : Int->Bool} {xs : List Int} : decide (0<=idxI p xs)=xs.any p:=by
 unfold idxI
 cases h : xs.findIdx? p with
 | none =>
   rw [List.findIdx?_eq_none_iff] at h
   have : xs.any p=false:=by rw [List.any_eq_false]; exact fun x hx => by simp [h x hx]
   rw [this]; rfl
 | some i =>
   obtain ⟨h1,h2,_⟩:=List.findIdx?_eq_some_iff_getElem.1 h
   have : xs.any p=true:=List.any_eq_true.2 ⟨_,List.getElem_mem h1,h2⟩
   rw [this]; simp
theorem l1Has_ok (xs : List Int) (n : Int) (hl : xs.length<=4294967296) : Ctr Try.prog 143 [.ints xs,.int .i64 n] false (.d (.bool (xs.any (· == n)))) []:=by
 refine Ctr.of (n:=18) (rs:=[.tmp 4]) Try.func143 rfl rfl Try.ntmps143 rfl rfl (by kernel_rfl) Try.checked.mixed ?_
 simp (disch:=first | omega | decide +kernel) only [D.ints,go_sem,Qa,Qb,Qc,Qd,Qe,↓reduceIte,reduceCtorEq,Qf,Qg,Qh]
 refine Ok.loopC [17,16,15,14,13,12,11,10,9,8,7,6,5,4,3,2] (fun i => [(5,.d (.int .i64 (i : Nat)))]) xs.length (fun i => ∀ j,j < i->(xs.getD j 0 == n)=false) (by simp) (Wk.kk) ?_
 intro R i hN hE hi hI
 simp (disch:=first | omega | decide +kernel) only [go_sem,Qa,Qb,Qc,Qd,Qe,↓reduceIte,reduceCtorEq,Qf,Qg,Qh]
 (repeat' (first | ((first | (refine gsel_split (fun q' => ?_) (fun q' => ?_)<;>(have h':=q')<;>(try simp only [za1,za2,Ba,Bb,za3,ne_eq,za4,za5,za6,Ia,Ib,Ic,Ie,Da,Bc,Bh,Be,za7,za8] at h')) | (have q':=trivial; first | refine hE _ _ ret_ne ?_ | refine hE _ _ exit_ne ?_))<;>(try simp (disch:=first | omega | decide +kernel) only [q',go_sem,Qa,Qb,Qc,Qd,Qe,↓reduceIte,reduceCtorEq,Qf,Qg,Qh])<;>clear q') | refine hN _ ?_ ?_ Wk.kk | with_reducible refine And.intro ?_ ?_ | with_reducible omega | exact ok_ints | exact cells_ints | exact no_mem | with_reducible exact plain_ints | (refine le_maxLen ?_; omega) | (refine za9 ⟨?_,?_⟩) | (simp only [go_sem,Qc,Qb,zb1,zb2,forall_eq]; done)))
 . rename_i h1
   rw [← idxI_ge,idxI_some h1 (by simpa using h') hI]; simp
 . exact all_succ hI (by simp; exact fun h => h' h)
 . rw [← idxI_ge,idxI_none fun j hj => hI j (by omega)]; rfl
theorem l2Has_ok (xs : List Int) (n : Int) (hl : xs.length<=4294967296) : Ctr Try.prog 108 [.ints xs,.int .i64 n] false (.d (.bool (xs.any (· == n)))) []:=by
 refine Ctr.of (n:=8) (rs:=[.tmp 4]) Try.func108 rfl rfl Try.ntmps108 rfl rfl (by kernel_rfl) Try.checked.mixed ?_
 simp (disch:=first | omega | decide +kernel) only [D.ints,go_sem,Qa,Qb,Qc,Qd,Qe,↓reduceIte,reduceCtorEq,Qf,Qg,Qh]
 (repeat' (first | ((first | (refine gsel_split (fun q' => ?_) (fun q' => ?_)<;>(have h':=q')<;>(try simp only [za1,za2,Ba,Bb,za3,ne_eq,za4,za5,za6,Ia,Ib,Ic,Ie,Da,Bc,Bh,Be,za7,za8] at h')) | (have q':=trivial; first | refine callX_new (l1Has_ok xs n hl) rfl (by decide) ?_ | refine callY_new (l1Has_ok xs n hl) rfl ?_ | refine hE _ _ ret_ne ?_ | refine hE _ _ exit_ne ?_))<;>(try simp (disch:=first | omega | decide +kernel) only [q',go_sem,Qa,Qb,Qc,Qd,Qe,↓reduceIte,reduceCtorEq,Qf,Qg,Qh])<;>clear q') | refine hN _ ?_ ?_ Wk.kk | with_reducible refine And.intro ?_ ?_ | with_reducible omega | exact ok_ints | exact cells_ints | exact no_mem | with_reducible exact plain_ints | (refine le_maxLen ?_; omega) | (refine za9 ⟨?_,?_⟩) | (simp only [go_sem,Qc,Qb,zb1,zb2,forall_eq]; done)))
def subI (a b : List Int) : Bool:=!(a.any fun x => !(b.any (· == x)))
end Abs.Y

namespace Abs.Y
open Go Go.Proofs Abs
set_option maxRecDepth 100000

def okCnf (v : Int) (cs : List (List Int)) : Bool:=(okVars v && decide (cs.length<=60)) && cs.all (okClause v)
theorem okCnf_bad {v : Int} {cs : List (List Int)} {i : Nat} (h : i < cs.length) (h' : okClause v (cs.getD i [])=false) : okCnf v cs=false:=by
 rw [okCnf,all_false (z:=[]) h h',Bool.and_false]
theorem okCnf_good {v : Int} {cs : List (List Int)} (h : ∀ j,j < cs.length->okClause v (cs.getD j [])=true) : okCnf v cs=(okVars v && decide (cs.length<=60)):=by
 rw [okCnf,all_true (z:=[]) h,Bool.and_true]
theorem isCnf_ok (v : Int) (cs : List (List Int)) (hl : cs.length<=4294967296) (hc : ∀ j,(cs.getD j []).length<=4294967296) :
 Ctr Try.prog 42 [.agg [.int .i64 v,.slice (cs.map D.ints)]] false (.d (.bool (okCnf v cs))) []:=by
 refine Ctr.of (n:=27) (rs:=[.tmp 2]) Try.func42 rfl rfl Try.ntmps42 rfl rfl (by kernel_rfl) Try.checked.mixed ?_
 simp (disch:=first | omega | decide +kernel) only [go_sem,Qa,Qb,Qc,Qd,Qe,↓reduceIte,reduceCtorEq,Qf,Qg,Qh]
 refine Ok.loopC [17,16,15,14,13,12,11,10,9,8,5,4,3,2,0] (fun i => [(8,.d (.int .i64 (i : Nat)))]) cs.length (fun i => ∀ j,j < i->okClause v (cs.getD j [])=true) (by simp) (Wk.kk) ?_
 intro R i hN hE hi hI
 simp (disch:=first | omega | decide +kernel) only [go_sem,Qa,Qb,Qc,Qd,Qe,↓reduceIte,reduceCtorEq,Qf,Qg,Qh]
 (repeat' (first | ((first | (refine gsel_split (fun q' => ?_) (fun q' => ?_)<;>(have h':=q')<;>(try simp only [za1,za2,Ba,Bb,za3,ne_eq,za4,za5,za6,Ia,Ib,Ic,Ie,Da,Bc,Bh,Be,za7,za8] at h')) | (have q':=trivial; first | refine callX_new (isClause_ok v _ (hc _)) rfl (by decide) ?_ | refine callY_new (isClause_ok v _ (hc _)) rfl ?_ | refine callX_new (varsOk_ok _) rfl (by decide) ?_ | refine callY_new (varsOk_ok _) rfl ?_ | refine hE _ _ ret_ne ?_ | refine hE _ _ exit_ne ?_))<;>(try simp (disch:=first | omega | decide +kernel) only [q',go_sem,Qa,Qb,Qc,Qd,Qe,↓reduceIte,reduceCtorEq,Qf,Qg,Qh])<;>clear q') | refine hN _ ?_ ?_ Wk.kk | with_reducible refine And.intro ?_ ?_ | with_reducible omega | exact ok_ints | exact cells_ints | exact no_mem | with_reducible exact plain_ints | (refine le_maxLen ?_; omega) | (refine za9 ⟨?_,?_⟩) | (simp only [go_sem,Qc,Qb,zb1,zb2,forall_eq]; done)))
 . rename_i h1
   rw [okCnf_bad h1 h']
 . exact all_succ hI h'
 . rw [okCnf_good fun j hj => hI j (by omega),h',Bool.true_and,decide_eq_decide.2 (by omega : (cs.length : Int)<=60↔cs.length<=60)]
 . simp [okCnf,h']
theorem l2Good_ok (v : Int) (cs : List (List Int)) (hl : cs.length<=4294967296) (hc : ∀ j,(cs.getD j []).length<=4294967296) :
 Ctr Try.prog 68 [.agg [.int .i64 v,.slice (cs.map D.ints)]] false (.d (.bool (okCnf v cs))) []:=by
 refine Ctr.of (n:=30) (rs:=[.tmp 2]) Try.func68 rfl rfl Try.ntmps68 rfl rfl (by kernel_rfl) Try.checked.mixed ?_
 simp (disch:=first | omega | decide +kernel) only [go_sem,Qa,Qb,Qc,Qd,Qe,↓reduceIte,reduceCtorEq,Qf,Qg,Qh]
 (repeat' (first | ((first | (refine gsel_split (fun q' => ?_) (fun q' => ?_)<;>(have h':=q')<;>(try simp only [za1,za2,Ba,Bb,za3,ne_eq,za4,za5,za6,Ia,Ib,Ic,Ie,Da,Bc,Bh,Be,za7,za8] at h')) | (have q':=trivial; first | refine callX_new (l2Vars_ok _) rfl (by decide) ?_ | refine callY_new (l2Vars_ok _) rfl ?_ | refine hE _ _ ret_ne ?_ | refine hE _ _ exit_ne ?_))<;>(try simp (disch:=first | omega | decide +kernel) only [q',go_sem,Qa,Qb,Qc,Qd,Qe,↓reduceIte,reduceCtorEq,Qf,Qg,Qh])<;>clear q') | refine hN _ ?_ ?_ Wk.kk | with_reducible refine And.intro ?_ ?_ | with_reducible omega | exact ok_ints | exact cells_ints | exact no_mem | with_reducible exact plain_ints | (refine le_maxLen ?_; omega) | (refine za9 ⟨?_,?_⟩) | (simp only [go_sem,Qc,Qb,zb1,zb2,forall_eq]; done)))
 . simp [okCnf,h',D.plain]
 . simp [okCnf,show ¬ cs.length<=60 by omega,D.plain]
 refine Ok.loopC [29,28,27,26,25,24,23,22,21,20,19,18,17,16,15,14,13,12,11,10,9,8,7,6,5,4,3,2,0] (fun i => [(3,.d (.int .i64 (i : Nat)))]) cs.length (fun i => ∀ j,j < i->okClause v (cs.getD j [])=true) (by simp) (Wk.kk) ?_
 intro R i hN hE hi hI
 simp (disch:=first | omega | decide +kernel) only [go_sem,Qa,Qb,Qc,Qd,Qe,↓reduceIte,reduceCtorEq,Qf,Qg,Qh]
 (repeat' (first | ((first | (refine gsel_split (fun q' => ?_) (fun q' => ?_)<;>(have h':=q')<;>(try simp only [za1,za2,Ba,Bb,za3,ne_eq,za4,za5,za6,Ia,Ib,Ic,Ie,Da,Bc,Bh,Be,za7,za8] at h')) | (have q':=trivial; first | refine callX_new (l2Clause_ok v _ (hc _)) rfl (by decide) ?_ | refine callY_new (l2Clause_ok v _ (hc _)) rfl ?_ | refine hE _ _ ret_ne ?_ | refine hE _ _ exit_ne ?_))<;>(try simp (disch:=first | omega | decide +kernel) only [q',go_sem,Qa,Qb,Qc,Qd,Qe,↓reduceIte,reduceCtorEq,Qf,Qg,Qh])<;>clear q') | refine hN _ ?_ ?_ Wk.kk | with_reducible refine And.intro ?_ ?_ | with_reducible omega | exact ok_ints | exact cells_ints | exact no_mem | with_reducible exact plain_ints | (refine le_maxLen ?_; omega) | (refine za9 ⟨?_,?_⟩) | (simp only [go_sem,Qc,Qb,zb1,zb2,forall_eq]; done)))
 . rename_i h1
   rw [okCnf_bad h1 h']
 . exact all_succ hI h'
 . rename_i h0 h1
   rw [okCnf_good fun j hj => hI j (by omega),h0,decide_eq_true (by omega : cs.length<=60)]; rfl
def okEarlier (v : Int) (steps : List Step) (k i : Int) : Bool:=(decide (0<=i) && decide (i<=k - 1)) && okClause v (steps.getD i.toNat Step.z).c
end Abs.Y
