/- What functions of this program compute, over plain data. No condition. -/
import Derived.Test.YtckigpgkmdhfoaaFacts
import Derived.Test.YtckigpgkmdhfoaaAbsRow
set_option linter.all false
namespace Abs.Y
open Go Go.Proofs Abs
open Nat renaming reduceEqDiff -> Qa, reduceLT -> Qb, reduceAdd -> Qc, reduceMul -> Qd, reduceSub -> Qe, reduceLeDiff -> Qf, reduceSubDiff -> Qg, reduceBEq -> Qh
open Bool renaming not_eq_true' -> Ba, not_eq_false' -> Bb, and_eq_true -> Bc, or_eq_true -> Bd, or_eq_false_iff -> Be
open Int renaming ofNat_lt -> Ia, ofNat_le -> Ib, not_lt -> Ic, not_le -> Ie
open Decidable renaming not_not -> Da
set_option maxRecDepth 100000

theorem within_ok (n lo hi : Int) : Ctr Try.prog 48 [.int .i64 n,.int .i64 lo,.int .i64 hi] false (.d (.bool (decide (lo<=n) && decide (n<=hi)))) []:=by
 refine Ctr.of (n:=15) (rs:=[.tmp 6]) Try.func48 rfl rfl Try.ntmps48 rfl rfl (by kernel_rfl) Try.checked.mixed ?_
 simp (disch:=first | omega | decide +kernel) only [go_sem,Qa,Qb,Qc,Qd,Qe,↓reduceIte,reduceCtorEq,Qf,Qg,Qh]
 (repeat' (first | ((first | (refine gsel_split (fun q' => ?_) (fun q' => ?_)<;>(have h':=q')<;>(try simp only [za1,za2,Ba,Bb,za3,ne_eq,za4,za5,za6,Ia,Ib,Ic,Ie,Da,Bc,Bd,Be,za7,za8] at h')) | (have q':=trivial; first | refine hE _ _ ret_ne ?_ | refine hE _ _ exit_ne ?_))<;>(try simp (disch:=first | omega | decide +kernel) only [q',go_sem,Qa,Qb,Qc,Qd,Qe,↓reduceIte,reduceCtorEq,Qf,Qg,Qh])<;>clear q') | refine hN _ ?_ ?_ Wk.kk | with_reducible refine And.intro ?_ ?_ | with_reducible omega | exact ok_ints | exact cells_ints | exact no_mem | with_reducible exact plain_ints | (refine le_maxLen ?_; omega) | (refine za9 ⟨?_,?_⟩) | (simp only [go_sem,Qc,Qb,zb1,zb2,forall_eq]; done)))
theorem l1In_ok (x a b : Int) : Ctr Try.prog 96 [.int .i64 x,.int .i64 a,.int .i64 b] false (.d (.bool (decide (a<=x) && decide (x<=b)))) []:=by
 refine Ctr.of (n:=15) (rs:=[.tmp 6]) Try.func96 rfl rfl Try.ntmps96 rfl rfl (by kernel_rfl) Try.checked.mixed ?_
 simp (disch:=first | omega | decide +kernel) only [go_sem,Qa,Qb,Qc,Qd,Qe,↓reduceIte,reduceCtorEq,Qf,Qg,Qh]
 (repeat' (first | ((first | (refine gsel_split (fun q' => ?_) (fun q' => ?_)<;>(have h':=q')<;>(try simp only [za1,za2,Ba,Bb,za3,ne_eq,za4,za5,za6,Ia,Ib,Ic,Ie,Da,Bc,Bd,Be,za7,za8] at h')) | (have q':=trivial; first | refine hE _ _ ret_ne ?_ | refine hE _ _ exit_ne ?_))<;>(try simp (disch:=first | omega | decide +kernel) only [q',go_sem,Qa,Qb,Qc,Qd,Qe,↓reduceIte,reduceCtorEq,Qf,Qg,Qh])<;>clear q') | refine hN _ ?_ ?_ Wk.kk | with_reducible refine And.intro ?_ ?_ | with_reducible omega | exact ok_ints | exact cells_ints | exact no_mem | with_reducible exact plain_ints | (refine le_maxLen ?_; omega) | (refine za9 ⟨?_,?_⟩) | (simp only [go_sem,Qc,Qb,zb1,zb2,forall_eq]; done)))
def absI (n : Int) : Int:=if IntKind.i64.wrap (0 - n) > n then IntKind.i64.wrap (0 - n) else n
theorem abs_ok (n : Int) : Ctr Try.prog 113 [.int .i64 n] false (.d (.int .i64 (absI n))) []:=by
 refine Ctr.of (n:=7) (rs:=[.tmp 2]) Try.func113 rfl rfl Try.ntmps113 rfl rfl (by kernel_rfl) Try.checked.mixed ?_
 simp (disch:=first | omega | decide +kernel) only [go_sem,Qa,Qb,Qc,Qd,Qe,↓reduceIte,reduceCtorEq,Qf,Qg,Qh]
 simp [absI]
def varI (n : Int) : Int:=if n < 0 then IntKind.i64.wrap (0 - n) else n
theorem l2Var_ok (n : Int) : Ctr Try.prog 119 [.int .i64 n] false (.d (.int .i64 (varI n))) []:=by
 refine Ctr.of (n:=8) (rs:=[.tmp 2]) Try.func119 rfl rfl Try.ntmps119 rfl rfl (by kernel_rfl) Try.checked.mixed ?_
 simp (disch:=first | omega | decide +kernel) only [go_sem,Qa,Qb,Qc,Qd,Qe,↓reduceIte,reduceCtorEq,Qf,Qg,Qh]
 (repeat' (first | ((first | (refine gsel_split (fun q' => ?_) (fun q' => ?_)<;>(have h':=q')<;>(try simp only [za1,za2,Ba,Bb,za3,ne_eq,za4,za5,za6,Ia,Ib,Ic,Ie,Da,Bc,Bd,Be,za7,za8] at h')) | (have q':=trivial; first | refine hE _ _ ret_ne ?_ | refine hE _ _ exit_ne ?_))<;>(try simp (disch:=first | omega | decide +kernel) only [q',go_sem,Qa,Qb,Qc,Qd,Qe,↓reduceIte,reduceCtorEq,Qf,Qg,Qh])<;>clear q') | refine hN _ ?_ ?_ Wk.kk | with_reducible refine And.intro ?_ ?_ | with_reducible omega | exact ok_ints | exact cells_ints | exact no_mem | with_reducible exact plain_ints | (refine le_maxLen ?_; omega) | (refine za9 ⟨?_,?_⟩) | (simp only [go_sem,Qc,Qb,zb1,zb2,forall_eq]; done)))
 . simp [varI,h',D.plain]
 . simp [varI,Ic.2 h',D.plain]
def okVars (v : Int) : Bool:=decide (0<=v) && decide (v<=12)
theorem varsOk_ok (v : Int) : Ctr Try.prog 100 [.int .i64 v] false (.d (.bool (okVars v))) []:=by
 refine Ctr.of (n:=5) (rs:=[.tmp 2]) Try.func100 rfl rfl Try.ntmps100 rfl rfl (by kernel_rfl) Try.checked.mixed ?_
 simp (disch:=first | omega | decide +kernel) only [go_sem,Qa,Qb,Qc,Qd,Qe,↓reduceIte,reduceCtorEq,Qf,Qg,Qh]
 (repeat' (first | ((first | (refine gsel_split (fun q' => ?_) (fun q' => ?_)<;>(have h':=q')<;>(try simp only [za1,za2,Ba,Bb,za3,ne_eq,za4,za5,za6,Ia,Ib,Ic,Ie,Da,Bc,Bd,Be,za7,za8] at h')) | (have q':=trivial; first | refine callX_new (within_ok _ _ _) rfl (by decide) ?_ | refine callY_new (within_ok _ _ _) rfl ?_ | refine hE _ _ ret_ne ?_ | refine hE _ _ exit_ne ?_))<;>(try simp (disch:=first | omega | decide +kernel) only [q',go_sem,Qa,Qb,Qc,Qd,Qe,↓reduceIte,reduceCtorEq,Qf,Qg,Qh])<;>clear q') | refine hN _ ?_ ?_ Wk.kk | with_reducible refine And.intro ?_ ?_ | with_reducible omega | exact ok_ints | exact cells_ints | exact no_mem | with_reducible exact plain_ints | (refine le_maxLen ?_; omega) | (refine za9 ⟨?_,?_⟩) | (simp only [go_sem,Qc,Qb,zb1,zb2,forall_eq]; done)))
 rfl
theorem l2Vars_ok (v : Int) : Ctr Try.prog 117 [.int .i64 v] false (.d (.bool (okVars v))) []:=by
 refine Ctr.of (n:=5) (rs:=[.tmp 2]) Try.func117 rfl rfl Try.ntmps117 rfl rfl (by kernel_rfl) Try.checked.mixed ?_
 simp (disch:=first | omega | decide +kernel) only [go_sem,Qa,Qb,Qc,Qd,Qe,↓reduceIte,reduceCtorEq,Qf,Qg,Qh]
 (repeat' (first | ((first | (refine gsel_split (fun q' => ?_) (fun q' => ?_)<;>(have h':=q')<;>(try simp only [za1,za2,Ba,Bb,za3,ne_eq,za4,za5,za6,Ia,Ib,Ic,Ie,Da,Bc,Bd,Be,za7,za8] at h')) | (have q':=trivial; first | refine callX_new (l1In_ok _ _ _) rfl (by decide) ?_ | refine callY_new (l1In_ok _ _ _) rfl ?_ | refine hE _ _ ret_ne ?_ | refine hE _ _ exit_ne ?_))<;>(try simp (disch:=first | omega | decide +kernel) only [q',go_sem,Qa,Qb,Qc,Qd,Qe,↓reduceIte,reduceCtorEq,Qf,Qg,Qh])<;>clear q') | refine hN _ ?_ ?_ Wk.kk | with_reducible refine And.intro ?_ ?_ | with_reducible omega | exact ok_ints | exact cells_ints | exact no_mem | with_reducible exact plain_ints | (refine le_maxLen ?_; omega) | (refine za9 ⟨?_,?_⟩) | (simp only [go_sem,Qc,Qb,zb1,zb2,forall_eq]; done)))
 rfl
def okLit (v l : Int) : Bool:=decide (l ≠ 0) && (decide (IntKind.i64.wrap (0 - v)<=l) && decide (l<=v))
theorem isLiteral_ok (v l : Int) : Ctr Try.prog 112 [.int .i64 v,.int .i64 l] false (.d (.bool (okLit v l))) []:=by
 refine Ctr.of (n:=14) (rs:=[.tmp 4]) Try.func112 rfl rfl Try.ntmps112 rfl rfl (by kernel_rfl) Try.checked.mixed ?_
 simp (disch:=first | omega | decide +kernel) only [go_sem,Qa,Qb,Qc,Qd,Qe,↓reduceIte,reduceCtorEq,Qf,Qg,Qh]
 (repeat' (first | ((first | (refine gsel_split (fun q' => ?_) (fun q' => ?_)<;>(have h':=q')<;>(try simp only [za1,za2,Ba,Bb,za3,ne_eq,za4,za5,za6,Ia,Ib,Ic,Ie,Da,Bc,Bd,Be,za7,za8] at h')) | (have q':=trivial; first | refine callX_new (within_ok _ _ _) rfl (by decide) ?_ | refine callY_new (within_ok _ _ _) rfl ?_ | refine hE _ _ ret_ne ?_ | refine hE _ _ exit_ne ?_))<;>(try simp (disch:=first | omega | decide +kernel) only [q',go_sem,Qa,Qb,Qc,Qd,Qe,↓reduceIte,reduceCtorEq,Qf,Qg,Qh])<;>clear q') | refine hN _ ?_ ?_ Wk.kk | with_reducible refine And.intro ?_ ?_ | with_reducible omega | exact ok_ints | exact cells_ints | exact no_mem | with_reducible exact plain_ints | (refine le_maxLen ?_; omega) | (refine za9 ⟨?_,?_⟩) | (simp only [go_sem,Qc,Qb,zb1,zb2,forall_eq]; done)))
 . simp [okLit,h']
 . simp [okLit,h']
theorem l2Lit_ok (v l : Int) : Ctr Try.prog 118 [.int .i64 v,.int .i64 l] false (.d (.bool (okLit v l))) []:=by
 refine Ctr.of (n:=14) (rs:=[.tmp 4]) Try.func118 rfl rfl Try.ntmps118 rfl rfl (by kernel_rfl) Try.checked.mixed ?_
 simp (disch:=first | omega | decide +kernel) only [go_sem,Qa,Qb,Qc,Qd,Qe,↓reduceIte,reduceCtorEq,Qf,Qg,Qh]
 (repeat' (first | ((first | (refine gsel_split (fun q' => ?_) (fun q' => ?_)<;>(have h':=q')<;>(try simp only [za1,za2,Ba,Bb,za3,ne_eq,za4,za5,za6,Ia,Ib,Ic,Ie,Da,Bc,Bd,Be,za7,za8] at h')) | (have q':=trivial; first | refine callX_new (l1In_ok _ _ _) rfl (by decide) ?_ | refine callY_new (l1In_ok _ _ _) rfl ?_ | refine hE _ _ ret_ne ?_ | refine hE _ _ exit_ne ?_))<;>(try simp (disch:=first | omega | decide +kernel) only [q',go_sem,Qa,Qb,Qc,Qd,Qe,↓reduceIte,reduceCtorEq,Qf,Qg,Qh])<;>clear q') | refine hN _ ?_ ?_ Wk.kk | with_reducible refine And.intro ?_ ?_ | with_reducible omega | exact ok_ints | exact cells_ints | exact no_mem | with_reducible exact plain_ints | (refine le_maxLen ?_; omega) | (refine za9 ⟨?_,?_⟩) | (simp only [go_sem,Qc,Qb,zb1,zb2,forall_eq]; done)))
 . simp [okLit,h',← Int.zero_sub]
   rfl
 . simp [okLit,h',← Int.zero_sub]
def okAt (v : Int) (c : List Int) (j : Nat) : Prop:=(c.getD j 0 ≠ 0∧-v<=c.getD j 0∧c.getD j 0<=v)∧(0 < j->(c.getD (j - 1) 0).natAbs < (c.getD j 0).natAbs)
instance (v c j) : Decidable (okAt v c j):=by unfold okAt; infer_instance
def okClause (v : Int) (c : List Int) : Bool:=okVars v && decide (∀ j,j < c.length->okAt v c j)
theorem okVars_iff {v : Int} : okVars v=true↔0<=v∧v<=12:=by simp [okVars]
theorem okLit_iff {v l : Int} (h : okVars v=true) : okLit v l=true↔l ≠ 0∧-v<=l∧l<=v:=by
 rw [okVars_iff] at h
 simp only [okLit,wrap_of (n:=0 - v) (by omega)]; simp
theorem absI_eq {n : Int} (h : -9223372036854775807<=n∧n<=9223372036854775807) : absI n=n.natAbs:=by
 rw [absI,wrap_of (n:=0 - n) (by omega)]; split<;>omega
theorem varI_eq {n : Int} (h : -9223372036854775807<=n∧n<=9223372036854775807) : varI n=n.natAbs:=by
 rw [varI,wrap_of (n:=0 - n) (by omega)]; split<;>omega
theorem okClause_false {v : Int} {c : List Int} {i : Nat} (hi : i < c.length) (h : okVars v=true->¬ okAt v c i) : okClause v c=false:=by
 cases hv : okVars v with
 | false => simp [okClause,hv]
 | true =>
   have : ¬ ∀ j,j < c.length->okAt v c j:=fun hh => h hv (hh i hi)
   simp only [okClause,this,decide_false,Bool.and_false]
theorem okClause_true {v : Int} {c : List Int} (h : okVars v=true->∀ j,j < c.length->okAt v c j) : okClause v c=okVars v:=by
 cases hv : okVars v with
 | false => simp [okClause,hv]
 | true =>
   have:=decide_eq_true (h hv)
   rw [okClause,this,hv,Bool.and_true]
theorem okAt_small {v : Int} {c : List Int} {j : Nat} (hv : okVars v=true) (h : okAt v c j) : -12<=c.getD j 0∧c.getD j 0<=12:=by
 rw [okVars_iff] at hv; obtain ⟨⟨_,_,_⟩,_⟩:=h; omega
theorem okAt_abs {v : Int} {c : List Int} {i : Nat} (f : Int->Int) (hf : ∀ n,-9223372036854775807<=n∧n<=9223372036854775807->f n=n.natAbs) (hv : okVars v=true) (hI : ∀ j,j < i->okAt v c j) (hl : okLit v (c.getD i 0)=true) :
 okAt v c i↔(0 < i->f (c.getD (i - 1) 0) < f (c.getD i 0)):=by
 rw [okLit_iff hv] at hl
 have hv':=okVars_iff.1 hv
 rw [okAt,and_iff_right hl]
 refine imp_congr_right fun h0 => ?_
 have h1:=okAt_small hv (hI (i - 1) (by omega))
 rw [hf _ (by omega),hf (c.getD i 0) (by omega)]
 omega
theorem isClause_ok (v : Int) (c : List Int) (hl : c.length<=4294967296) : Ctr Try.prog 57 [.int .i64 v,.ints c] false (.d (.bool (okClause v c))) []:=by
 refine Ctr.of (n:=36) (rs:=[.tmp 4]) Try.func57 rfl rfl Try.ntmps57 rfl rfl (by kernel_rfl) Try.checked.mixed ?_
 simp (disch:=first | omega | decide +kernel) only [D.ints,go_sem,Qa,Qb,Qc,Qd,Qe,↓reduceIte,reduceCtorEq,Qf,Qg,Qh]
 refine Ok.loopC [33,32,31,30,29,28,27,26,25,24,23,22,21,20,19,18,17,16,15,14,13,12,11,10,9,6,5,4,3,2] (fun i => [(9,.d (.int .i64 (i : Nat)))]) c.length (fun i => okVars v=true->∀ j,j < i->okAt v c j) (by simp) (Wk.kk) ?_
 intro R i hN hE hi hI
 simp (disch:=first | omega | decide +kernel) only [go_sem,Qa,Qb,Qc,Qd,Qe,↓reduceIte,reduceCtorEq,Qf,Qg,Qh]
 (repeat' (first | ((first | (refine gsel_split (fun q' => ?_) (fun q' => ?_)<;>(have h':=q')<;>(try simp only [za1,za2,Ba,Bb,za3,ne_eq,za4,za5,za6,Ia,Ib,Ic,Ie,Da,Bc,Bd,Be,za7,za8] at h')) | (have q':=trivial; first | refine callX_new (isLiteral_ok _ _) rfl (by decide) ?_ | refine callY_new (isLiteral_ok _ _) rfl ?_ | refine callX_new (abs_ok _) rfl (by decide) ?_ | refine callY_new (abs_ok _) rfl ?_ | refine callX_new (varsOk_ok _) rfl (by decide) ?_ | refine callY_new (varsOk_ok _) rfl ?_ | refine hE _ _ ret_ne ?_ | refine hE _ _ exit_ne ?_))<;>(try simp (disch:=first | omega | decide +kernel) only [q',go_sem,Qa,Qb,Qc,Qd,Qe,↓reduceIte,reduceCtorEq,Qf,Qg,Qh])<;>clear q') | refine hN _ ?_ ?_ Wk.kk | with_reducible refine And.intro ?_ ?_ | with_reducible omega | exact ok_ints | exact cells_ints | exact no_mem | with_reducible exact plain_ints | (refine le_maxLen ?_; omega) | (refine za9 ⟨?_,?_⟩) | (simp only [go_sem,Qc,Qb,zb1,zb2,forall_eq]; done)))
 . rename_i h1
   rw [okClause_false h1 fun hv h => by rw [(okLit_iff hv).2 h.1] at h'; cases h']
 . rename_i h1 h2 h3
   rw [okClause_false h1 fun hv h => by rw [okAt_abs absI (fun n => absI_eq) hv (hI hv) h2] at h; omega]
 . rename_i h1 h2 h3
   exact fun hv => all_succ (hI hv) ((okAt_abs absI (fun n => absI_eq) hv (hI hv) h2).2 fun _ => h')
 . rename_i h1 h2
   exact fun hv => all_succ (hI hv) ⟨(okLit_iff hv).1 h2,fun h => by omega⟩
 . rw [okClause_true fun hv j hj => hI hv j (by omega)]
theorem l2Clause_ok (v : Int) (c : List Int) (hl : c.length<=4294967296) : Ctr Try.prog 61 [.int .i64 v,.ints c] false (.d (.bool (okClause v c))) []:=by
 refine Ctr.of (n:=40) (rs:=[.tmp 4]) Try.func61 rfl rfl Try.ntmps61 rfl rfl (by kernel_rfl) Try.checked.mixed ?_
 simp (disch:=first | omega | decide +kernel) only [D.ints,go_sem,Qa,Qb,Qc,Qd,Qe,↓reduceIte,reduceCtorEq,Qf,Qg,Qh]
 (repeat' (first | ((first | (refine gsel_split (fun q' => ?_) (fun q' => ?_)<;>(have h':=q')<;>(try simp only [za1,za2,Ba,Bb,za3,ne_eq,za4,za5,za6,Ia,Ib,Ic,Ie,Da,Bc,Bd,Be,za7,za8] at h')) | (have q':=trivial; first | refine callX_new (l2Vars_ok _) rfl (by decide) ?_ | refine callY_new (l2Vars_ok _) rfl ?_ | refine hE _ _ ret_ne ?_ | refine hE _ _ exit_ne ?_))<;>(try simp (disch:=first | omega | decide +kernel) only [q',go_sem,Qa,Qb,Qc,Qd,Qe,↓reduceIte,reduceCtorEq,Qf,Qg,Qh])<;>clear q') | refine hN _ ?_ ?_ Wk.kk | with_reducible refine And.intro ?_ ?_ | with_reducible omega | exact ok_ints | exact cells_ints | exact no_mem | with_reducible exact plain_ints | (refine le_maxLen ?_; omega) | (refine za9 ⟨?_,?_⟩) | (simp only [go_sem,Qc,Qb,zb1,zb2,forall_eq]; done)))
 . simp [okClause,h',D.plain]
 refine Ok.loopC [39,38,37,36,35,34,33,32,31,30,29,28,27,26,25,24,23,22,21,20,19,18,17,16,15,14,13,12,11,10,9,8,7,6,5,4,3,2] (fun i => [(5,.d (.int .i64 (i : Nat)))]) c.length (fun i => ∀ j,j < i->okAt v c j) (by simp) (Wk.kk) ?_
 intro R i hN hE hi hI
 simp (disch:=first | omega | decide +kernel) only [go_sem,Qa,Qb,Qc,Qd,Qe,↓reduceIte,reduceCtorEq,Qf,Qg,Qh]
 (repeat' (first | ((first | (refine gsel_split (fun q' => ?_) (fun q' => ?_)<;>(have h':=q')<;>(try simp only [za1,za2,Ba,Bb,za3,ne_eq,za4,za5,za6,Ia,Ib,Ic,Ie,Da,Bc,Bd,Be,za7,za8] at h')) | (have q':=trivial; first | refine callX_new (l2Lit_ok _ _) rfl (by decide) ?_ | refine callY_new (l2Lit_ok _ _) rfl ?_ | refine callX_new (l2Var_ok _) rfl (by decide) ?_ | refine callY_new (l2Var_ok _) rfl ?_ | refine hE _ _ ret_ne ?_ | refine hE _ _ exit_ne ?_))<;>(try simp (disch:=first | omega | decide +kernel) only [q',go_sem,Qa,Qb,Qc,Qd,Qe,↓reduceIte,reduceCtorEq,Qf,Qg,Qh])<;>clear q') | refine hN _ ?_ ?_ Wk.kk | with_reducible refine And.intro ?_ ?_ | with_reducible omega | exact ok_ints | exact cells_ints | exact no_mem | with_reducible exact plain_ints | (refine le_maxLen ?_; omega) | (refine za9 ⟨?_,?_⟩) | (simp only [go_sem,Qc,Qb,zb1,zb2,forall_eq]; done)))
 . rename_i hv h1
   rw [okClause_false h1 fun hv h => by rw [(okLit_iff hv).2 h.1] at h'; cases h']
 . rename_i hv h1 h2 h3
   rw [okClause_false h1 fun hv h => by rw [okAt_abs varI (fun n => varI_eq) hv hI h2] at h; omega]
 . rename_i hv h1 h2 h3
   exact all_succ hI ((okAt_abs varI (fun n => varI_eq) hv hI h2).2 fun _ => h')
 . rename_i hv h1 h2
   exact all_succ hI ⟨(okLit_iff hv).1 h2,fun h => by omega⟩
 . rename_i hv
   rw [okClause_true fun hv j hj => hI j (by omega),hv]
end Abs.Y

namespace Abs
open Go Go.RowKit

theorem ofInt_nat (a : Nat) : BitVec.ofInt 64 (a : Int)=BitVec.ofNat 64 a:=by
 apply BitVec.eq_of_toNat_eq; simp [BitVec.toNat_ofInt]
theorem bitV_and {a b : Nat} (ha : a < 2 ^ 63) (hb : b < 2 ^ 63) : bitV .and .i64 a b=((a &&& b : Nat) : Int):=by
 have h : a &&& b < 2 ^ 63:=Nat.and_lt_two_pow _ hb
 show IntKind.wrap .i64 (((BitVec.ofInt 64 (a : Int)) &&& (BitVec.ofInt 64 (b : Int))).toNat : Nat)=_
 rw [ofInt_nat,ofInt_nat,BitVec.toNat_and,BitVec.toNat_ofNat,BitVec.toNat_ofNat,Nat.mod_eq_of_lt (by omega),Nat.mod_eq_of_lt (by omega),wrap_of (by omega)]
theorem bitV_or {a b : Nat} (ha : a < 2 ^ 63) (hb : b < 2 ^ 63) : bitV .or .i64 a b=((a ||| b : Nat) : Int):=by
 have h : a ||| b < 2 ^ 63:=Nat.or_lt_two_pow ha hb
 show IntKind.wrap .i64 (((BitVec.ofInt 64 (a : Int)) ||| (BitVec.ofInt 64 (b : Int))).toNat : Nat)=_
 rw [ofInt_nat,ofInt_nat,BitVec.toNat_or,BitVec.toNat_ofNat,BitVec.toNat_ofNat,Nat.mod_eq_of_lt (by omega),Nat.mod_eq_of_lt (by omega),wrap_of (by omega)]
theorem shl_one {e : Nat} (he : e<=62) : IntKind.wrap .i64 (1 * 2 ^ min e (IntKind.bits .i64))=((2 ^ e : Nat) : Int):=by
 have h : 2 ^ e<=2 ^ 62:=Nat.pow_le_pow_right (by decide) he
 rw [show min e (IntKind.bits .i64)=e by simp [IntKind.bits]; omega,Int.one_mul]
 have e1 : ((2 : Int) ^ e)=((2 ^ e : Nat) : Int):=by simp
 rw [e1]
 generalize 2 ^ e=x at *
 rw [wrap_of (by omega)]
theorem shr_nat {b e : Nat} (he : e<=62) : (b : Int).fdiv (2 ^ min e (IntKind.bits .i64))=((b >>> e : Nat) : Int):=by
 rw [show min e (IntKind.bits .i64)=e by simp [IntKind.bits]; omega]
 have e1 : ((2 : Int) ^ e)=((2 ^ e : Nat) : Int):=by simp
 rw [e1,Nat.shiftRight_eq_div_pow]
 rw [Int.fdiv_eq_ediv_of_nonneg _ (Int.natCast_nonneg _)]; simp
def bitI (b k : Nat) : Int:=if b.testBit k then 1 else 0
theorem bit_of {b k : Nat} (hk : k<=62) (hb : b < 2 ^ 63) : bitV .and .i64 ((b : Int).fdiv (2 ^ min k (IntKind.bits .i64))) 1=bitI b k:=by
 rw [shr_nat hk]
 have h : b >>> k < 2 ^ 63:=Nat.lt_of_le_of_lt (Nat.shiftRight_le b k) hb
 have:=bitV_and h (b:=1) (by decide)
 rw [show ((1 : Nat) : Int)=1 from rfl] at this
 rw [this,Nat.and_one_is_mod]
 unfold bitI
 rw [Nat.testBit,Nat.one_and_eq_mod_two,bne]
 rcases Nat.mod_two_eq_zero_or_one (b >>> k) with h | h<;>simp [h]
end Abs
