/- What functions of this program compute, over plain data. No condition. -/
import Derived.Test.YtdohpocdlkcaoaaFF3
set_option linter.all false
namespace Abs.Y
open Go Go.Proofs Abs
open Nat renaming reduceEqDiff -> Qa, reduceLT -> Qb, reduceAdd -> Qc, reduceMul -> Qd, reduceSub -> Qe, reduceLeDiff -> Qf, reduceSubDiff -> Qg, reduceBEq -> Qh
open Bool renaming not_eq_true' -> Ba, not_eq_false' -> Bb, and_eq_true -> Bc, or_eq_true -> Bd, or_eq_false_iff -> Be
open Int renaming ofNat_lt -> Ia, ofNat_le -> Ib, not_lt -> Ic, not_le -> Ie
open Decidable renaming not_not -> Da
set_option maxRecDepth 100000

theorem holesOk_ok (n : Int) : Ctr Try.prog 124 [.int .i64 n] false (.d (.bool (decide (1<=n) && decide (n<=3)))) []:=by
 have c1:=within_ok n 1 3
 refine Ctr.of (n:=5) (rs:=[.tmp 2]) Try.func124 rfl rfl Try.ntmps124 rfl rfl (by kernel_rfl) Try.checked.mixed ?_
 simp (disch:=first | omega | decide +kernel) only [go_sem,Qa,Qb,Qc,Qd,Qe,↓reduceIte,reduceCtorEq,Qf,Qg,Qh]
 (repeat' (first | ((first | (refine gsel_split (fun q' => ?_) (fun q' => ?_)<;>(have h':=q')<;>(try simp only [za1,za2,Ba,Bb,za3,ne_eq,za4,za5,za6,Ia,Ib,Ic,Ie,Da,Bc,Bd,Be,za7,za8] at h')) | (have q':=trivial; first | refine callX_new (c1) rfl (by decide) ?_ | refine callY_new (c1) rfl ?_ | refine hE _ _ ret_ne ?_ | refine hE _ _ exit_ne ?_))<;>(try simp (disch:=first | omega | decide +kernel) only [q',go_sem,Qa,Qb,Qc,Qd,Qe,↓reduceIte,reduceCtorEq,Qf,Qg,Qh])<;>clear q') | refine hN _ ?_ ?_ Wk.kk | with_reducible refine And.intro ?_ ?_ | with_reducible omega | exact ok_ints | exact cells_ints | exact no_mem | with_reducible exact plain_ints | (refine le_maxLen ?_; omega) | (refine za9 ⟨?_,?_⟩) | (simp only [go_sem,Qc,Qb,zb1,zb2,forall_eq]; done)))
theorem pigeonCnf_own (n : Nat) (hn : 1<=n∧n<=3) (hok : okCnf (((n + 1 : Nat) : Int) * n) (cnfI n)=true) (hx : ∀ j,((cnfI n).getD j []).length<=4294967296) : Ctr Try.prog 51 [.int .i64 (n : Int)] false (.tup [.st [.d (.int .i64 (((n + 1 : Nat) : Int) * n)),.sl 0],.d (.bool true)]) [(0,fmT (cnfI n))]:=by
 have c1:=holesOk_ok n
 rw [show (decide ((1 : Int)<=(n : Int)) && decide ((n : Int)<=3))=true by simp; omega] at c1
 have c2:=pigeonhole_own n (by omega) hok hx
 rw [show ((n + 1 : Nat) : Int)=(n : Int) + 1 by omega] at c2 ⊢
 refine Ctr.of (n:=14) (rs:=[.cell 2 29,.tmp 3]) Try.func51 rfl rfl Try.ntmps51 rfl rfl (by kernel_rfl) Try.checked.mixed ?_
 simp (disch:=first | omega | decide +kernel) only [go_sem,Qa,Qb,Qc,Qd,Qe,↓reduceIte,reduceCtorEq,Qf,Qg,Qh]
 (repeat' (first | ((first | (refine gsel_split (fun q' => ?_) (fun q' => ?_)<;>(have h':=q')<;>(try simp only [za1,za2,Ba,Bb,za3,ne_eq,za4,za5,za6,Ia,Ib,Ic,Ie,Da,Bc,Bd,Be,za7,za8] at h')) | (have q':=trivial; first | refine callX_new (c1) rfl (by decide) ?_ | refine callY_new (c1) rfl ?_ | refine callX_new (c2) rfl (by decide) ?_ | refine callY_new (c2) rfl ?_ | refine hE _ _ ret_ne ?_ | refine hE _ _ exit_ne ?_))<;>(try simp (disch:=first | omega | decide +kernel) only [q',go_sem,Qa,Qb,Qc,Qd,Qe,↓reduceIte,reduceCtorEq,Qf,Qg,Qh])<;>clear q') | refine hN _ ?_ ?_ Wk.kk | with_reducible refine And.intro ?_ ?_ | with_reducible omega | exact ok_ints | exact cells_ints | exact no_mem | with_reducible exact plain_ints | (refine le_maxLen ?_; omega) | (refine za9 ⟨?_,?_⟩) | (simp only [go_sem,Qc,Qb,zb1,zb2,forall_eq]; done)))
 all_goals (first | exact ret_cstd1 rfl rfl rfl (by simp only [go_sem]) (by simp only [go_sem,List.length_cons,List.length_nil]) rfl (by simp only [go_sem]) rfl rfl ⟨rfl,trivial,trivial⟩ trivial rfl rfl)
theorem mustI_good {xs : List Int} (g : Good xs) : mustI xs=xs:=by
 have h:=clauseI_spec (xs:=xs) g.2
 unfold mustI
 cases hc : clauseI xs with
 | some c => exact good_uniq (h.1 c hc).1 g (h.1 c hc).2
 | none =>
   obtain ⟨x,h1,h2⟩:=h.2 hc
   exact (good_neg g h1 h2).elim
instance (xs : List Int) : Decidable (Good xs):=by unfold Good; infer_instance
theorem good_rows : ∀ n,n < 4->∀ i,i < n + 1->Good (pRow n (i + 1) n):=by decide +kernel
theorem good_pairs : ∀ n,n < 4->∀ j,j < n->∀ i,i < n + 1->∀ c,c < n - i->Good [-(pvar n (i + 1) (j + 1)),-(pvar n (i + 1 + 1 + c) (j + 1))]:=by decide +kernel
theorem pA_eq {n : Nat} (hn : n < 4) : ∀ i,i<=n + 1->pA mustI n i=pA id n i
 | 0,_ => rfl
 | i + 1,h => by rw [pA,pA,pA_eq hn i (by omega),mustI_good (good_rows n hn i (by omega))]; rfl
theorem pK_eq {n : Nat} (hn : n < 4) {j i : Nat} (hj : j < n) (hi : i < n + 1) (l : List (List Int)) : ∀ c,c<=n - i->pK mustI n (j + 1) (i + 1) l c=pK id n (j + 1) (i + 1) l c
 | 0,_ => rfl
 | c + 1,h => by rw [pK,pK,pK_eq hn hj hi l c (by omega),mustI_good (good_pairs n hn j hj i hi c (by omega))]; rfl
theorem pI_eq {n : Nat} (hn : n < 4) {j : Nat} (hj : j < n) (l : List (List Int)) : ∀ c,c<=n + 1->pI mustI n (j + 1) l c=pI id n (j + 1) l c
 | 0,_ => rfl
 | c + 1,h => by rw [pI,pI,pI_eq hn hj l c (by omega),pK_eq hn hj (by omega) _ _ (Nat.le_refl _)]
theorem pJ_eq {n : Nat} (hn : n < 4) : ∀ c,c<=n->pJ mustI n c=pJ id n c
 | 0,_ => by rw [pJ,pJ,pA_eq hn _ (Nat.le_refl _)]
 | c + 1,h => by rw [pJ,pJ,pJ_eq hn c (by omega),pI_eq hn (by omega) _ _ (Nat.le_refl _)]
theorem cnf_IS {n : Nat} (hn : n < 4) : cnfI n=cnfS n:=pJ_eq hn n (Nat.le_refl _)
theorem cnf_ok : ∀ n,n < 4->okCnf (((n + 1 : Nat) : Int) * n) (cnfS n)=true:=by decide +kernel
theorem cnf_small : ∀ n,n < 4->∀ x ∈ cnfS n,x.length<=3:=by decide +kernel
theorem getD_small {L : List (List Int)} {B : Nat} (h : ∀ x ∈ L,x.length<=B) (j : Nat) : (L.getD j []).length<=B:=by
 by_cases hj : j < L.length
 . exact h _ (getD_mem hj)
 . rw [List.getD_eq_getElem?_getD,List.getElem?_eq_none (by omega)]; simp
theorem pigeonCnfS_own (n : Nat) (hn : 1<=n∧n<=3) : Ctr Try.prog 51 [.int .i64 (n : Int)] false (.tup [.st [.d (.int .i64 ((n : Int) * (n + 1))),.sl 0],.d (.bool true)]) [(0,fmT (cnfS n))]:=by
 have h:=pigeonCnf_own n hn (by rw [cnf_IS (by omega)]; exact cnf_ok n (by omega)) (fun j => by rw [cnf_IS (by omega)]; have:=getD_small (cnf_small n (by omega)) j; omega)
 rw [cnf_IS (by omega),show ((n + 1 : Nat) : Int) * n=(n : Int) * (n + 1) by rw [Int.mul_comm]; rfl] at h
 exact h
theorem pigeonCnf_noO (n : Int) (h : (decide (1<=n) && decide (n<=3))=false) : Ctr Try.prog 51 [.int .i64 n] true (.tup [.d (.agg [.int .i64 0,.slice []]),.d (.bool false)]) []:=by
 have c1:=holesOk_ok n
 rw [h] at c1
 refine Ctr.of (n:=14) (rs:=[.cell 2 29,.tmp 3]) Try.func51 rfl rfl Try.ntmps51 rfl rfl (by kernel_rfl) Try.checked.mixed ?_
 simp (disch:=first | omega | decide +kernel) only [go_sem,Qa,Qb,Qc,Qd,Qe,↓reduceIte,reduceCtorEq,Qf,Qg,Qh]
 (repeat' (first | ((first | (refine gsel_split (fun q' => ?_) (fun q' => ?_)<;>(have h':=q')<;>(try simp only [za1,za2,Ba,Bb,za3,ne_eq,za4,za5,za6,Ia,Ib,Ic,Ie,Da,Bc,Bd,Be,za7,za8] at h')) | (have q':=trivial; first | refine callX_new (c1) rfl (by decide) ?_ | refine callY_new (c1) rfl ?_ | refine hE _ _ ret_ne ?_ | refine hE _ _ exit_ne ?_))<;>(try simp (disch:=first | omega | decide +kernel) only [q',go_sem,Qa,Qb,Qc,Qd,Qe,↓reduceIte,reduceCtorEq,Qf,Qg,Qh])<;>clear q') | refine hN _ ?_ ?_ Wk.kk | with_reducible refine And.intro ?_ ?_ | with_reducible omega | exact ok_ints | exact cells_ints | exact no_mem | with_reducible exact plain_ints | (refine le_maxLen ?_; omega) | (refine za9 ⟨?_,?_⟩) | (simp only [go_sem,Qc,Qb,zb1,zb2,forall_eq]; done)))
 all_goals (first | exact ret_scbd1 [] rfl rfl rfl (by simp only [go_sem]) (by simp only [go_sem,List.length_cons,List.length_nil]) rfl (by simp only [go_sem]))
theorem pigeonVar_ok (n i j : Nat) (hn : n<=3) (hi : 1<=i∧i<=4) (hj : j<=3) : Ctr Try.prog 115 [.int .i64 (n : Int),.int .i64 (i : Int),.int .i64 (j : Int)] false (.d (.int .i64 (pvar n i j))) []:=by
 have h1:=pvar_bd hn hi hj
 unfold pvar
 refine Ctr.of (n:=13) (rs:=[.tmp 6]) Try.func115 rfl rfl Try.ntmps115 rfl rfl (by kernel_rfl) Try.checked.mixed ?_
 simp (disch:=first | omega | decide +kernel) only [go_sem,Qa,Qb,Qc,Qd,Qe,↓reduceIte,reduceCtorEq,Qf,Qg,Qh]
 (repeat' (first | ((first | (refine gsel_split (fun q' => ?_) (fun q' => ?_)<;>(have h':=q')<;>(try simp only [za1,za2,Ba,Bb,za3,ne_eq,za4,za5,za6,Ia,Ib,Ic,Ie,Da,Bc,Bd,Be,za7,za8] at h')) | (have q':=trivial; first | refine hE _ _ ret_ne ?_ | refine hE _ _ exit_ne ?_))<;>(try simp (disch:=first | omega | decide +kernel) only [q',go_sem,Qa,Qb,Qc,Qd,Qe,↓reduceIte,reduceCtorEq,Qf,Qg,Qh])<;>clear q') | refine hN _ ?_ ?_ Wk.kk | with_reducible refine And.intro ?_ ?_ | with_reducible omega | exact ok_ints | exact cells_ints | exact no_mem | with_reducible exact plain_ints | (refine le_maxLen ?_; omega) | (refine za9 ⟨?_,?_⟩) | (simp only [go_sem,Qc,Qb,zb1,zb2,forall_eq]; done)))
theorem iFunctional_no (n : Int) (h : (decide (1<=n) && decide (n<=3))=false) : Ctr Try.prog 39 [.int .i64 n] true (.tup [.d (.agg [.int .i64 0,.slice []]),.d (.bool false)]) []:=by
 have c1:=pigeonCnf_noO n h
 refine Ctr.of (n:=53) (rs:=[.cell 2 29,.tmp 3]) Try.func39 rfl rfl Try.ntmps39 rfl rfl (by kernel_rfl) Try.checked.mixed ?_
 simp (disch:=first | omega | decide +kernel) only [go_sem,Qa,Qb,Qc,Qd,Qe,↓reduceIte,reduceCtorEq,Qf,Qg,Qh]
 (repeat' (first | ((first | (refine gsel_split (fun q' => ?_) (fun q' => ?_)<;>(have h':=q')<;>(try simp only [za1,za2,Ba,Bb,za3,ne_eq,za4,za5,za6,Ia,Ib,Ic,Ie,Da,Bc,Bd,Be,za7,za8] at h')) | (have q':=trivial; first | refine callX_shared (c1) rfl (by decide) ?_ | refine callY_shared (c1) rfl ?_ | refine hE _ _ ret_ne ?_ | refine hE _ _ exit_ne ?_))<;>(try simp (disch:=first | omega | decide +kernel) only [q',go_sem,Qa,Qb,Qc,Qd,Qe,↓reduceIte,reduceCtorEq,Qf,Qg,Qh])<;>clear q') | refine hN _ ?_ ?_ Wk.kk | with_reducible refine And.intro ?_ ?_ | with_reducible omega | exact ok_ints | exact cells_ints | exact no_mem | with_reducible exact plain_ints | (refine le_maxLen ?_; omega) | (refine za9 ⟨?_,?_⟩) | (simp only [go_sem,Qc,Qb,zb1,zb2,forall_eq]; done)))
 all_goals (first | exact ret_scbd1 [] rfl rfl rfl (by simp only [go_sem]) (by simp only [go_sem,List.length_cons,List.length_nil]) rfl (by simp only [go_sem]))
theorem iOnto_no (n : Int) (h : (decide (1<=n) && decide (n<=3))=false) : Ctr Try.prog 36 [.int .i64 n] true (.tup [.d (.agg [.int .i64 0,.slice []]),.d (.bool false)]) []:=by
 have c1:=iFunctional_no n h
 refine Ctr.of (n:=42) (rs:=[.cell 2 29,.tmp 3]) Try.func36 rfl rfl Try.ntmps36 rfl rfl (by kernel_rfl) Try.checked.mixed ?_
 simp (disch:=first | omega | decide +kernel) only [go_sem,Qa,Qb,Qc,Qd,Qe,↓reduceIte,reduceCtorEq,Qf,Qg,Qh]
 (repeat' (first | ((first | (refine gsel_split (fun q' => ?_) (fun q' => ?_)<;>(have h':=q')<;>(try simp only [za1,za2,Ba,Bb,za3,ne_eq,za4,za5,za6,Ia,Ib,Ic,Ie,Da,Bc,Bd,Be,za7,za8] at h')) | (have q':=trivial; first | refine callX_shared (c1) rfl (by decide) ?_ | refine callY_shared (c1) rfl ?_ | refine hE _ _ ret_ne ?_ | refine hE _ _ exit_ne ?_))<;>(try simp (disch:=first | omega | decide +kernel) only [q',go_sem,Qa,Qb,Qc,Qd,Qe,↓reduceIte,reduceCtorEq,Qf,Qg,Qh])<;>clear q') | refine hN _ ?_ ?_ Wk.kk | with_reducible refine And.intro ?_ ?_ | with_reducible omega | exact ok_ints | exact cells_ints | exact no_mem | with_reducible exact plain_ints | (refine le_maxLen ?_; omega) | (refine za9 ⟨?_,?_⟩) | (simp only [go_sem,Qc,Qb,zb1,zb2,forall_eq]; done)))
 all_goals (first | exact ret_scbd1 [] rfl rfl rfl (by simp only [go_sem]) (by simp only [go_sem,List.length_cons,List.length_nil]) rfl (by simp only [go_sem]))
end Abs.Y
