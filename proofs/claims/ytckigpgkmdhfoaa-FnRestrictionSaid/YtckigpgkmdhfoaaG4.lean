/- What functions of this program compute, over plain data. No condition. -/
import Derived.Test.YtckigpgkmdhfoaaAbsBits
set_option linter.all false
namespace Abs.Y
open Go Go.Proofs Abs
open Nat renaming reduceEqDiff -> Qa, reduceLT -> Qb, reduceAdd -> Qc, reduceMul -> Qd, reduceSub -> Qe, reduceLeDiff -> Qf, reduceSubDiff -> Qg, reduceBEq -> Qh
open Bool renaming not_eq_true' -> Ba, not_eq_false' -> Bb, and_eq_true -> Bc, or_eq_true -> Bd, or_eq_false_iff -> Be
open Int renaming ofNat_lt -> Ia, ofNat_le -> Ib, not_lt -> Ic, not_le -> Ie
open Decidable renaming not_not -> Da
set_option maxRecDepth 100000

def idxI (p : Int->Bool) (xs : List Int) : Int:=match xs.findIdx? p with | some i => (i : Nat) | none => -1
theorem idxI_some {p : Int->Bool} {xs : List Int} {i : Nat} (h : i < xs.length) (hp : p (xs.getD i 0)=true) (hn : ∀ j,j < i->p (xs.getD j 0)=false) : idxI p xs=i:=by
 have : xs.findIdx? p=some i:=by
  rw [List.findIdx?_eq_some_iff_getElem]
  refine ⟨h,by simpa [List.getD_eq_getElem?_getD,h] using hp,fun j hj => ?_⟩
  have h2 : j < xs.length:=by omega
  simpa [List.getD_eq_getElem?_getD,h2] using hn j hj
 rw [idxI,this]
theorem idxI_none {p : Int->Bool} {xs : List Int} (hn : ∀ j,j < xs.length->p (xs.getD j 0)=false) : idxI p xs=-1:=by
 have : xs.findIdx? p=none:=by
  rw [List.findIdx?_eq_none_iff]
  intro x hx
  obtain ⟨j,hj,rfl⟩:=List.getElem_of_mem hx
  have:=hn j hj
  simpa [List.getD_eq_getElem?_getD,hj] using this
 rw [idxI,this]
theorem idxI_ge {p : Int->Bool} {xs : List Int} : decide (0<=idxI p xs)=xs.any p:=by
 unfold idxI
 cases h : xs.findIdx? p with
 | none =>
   rw [List.findIdx?_eq_none_iff] at h
   have : xs.any p=false:=by rw [List.any_eq_false]; exact fun x hx => by simp [h x hx]
   rw [this]; rfl
 | some i =>
   obtain ⟨h1,h2,_⟩:=List.findIdx?_eq_some_iff_getElem.1 h
   have : xs.any p=true:=List.any_eq_true.2 ⟨_,List.getElem_mem h1,h2⟩
   rw [this]; simp
theorem index_ok (xs : List Int) (n : Int) (hl : xs.length<=4294967296) : Ctr Try.prog 157 [.ints xs,.int .i64 n] false (.d (.int .i64 (idxI (· == n) xs))) []:=by
 refine Ctr.of (n:=19) (rs:=[.tmp 4]) Try.func157 rfl rfl Try.ntmps157 rfl rfl (by kernel_rfl) Try.checked.mixed ?_
 simp (disch:=first | omega | decide +kernel) only [D.ints,go_sem,Qa,Qb,Qc,Qd,Qe,↓reduceIte,reduceCtorEq,Qf,Qg,Qh]
 refine Ok.loopC [18,17,16,15,14,13,12,11,10,9,8,6,5,4,3,2] (fun i => [(8,.d (.int .i64 (i : Nat)))]) xs.length (fun i => ∀ j,j < i->(xs.getD j 0 == n)=false) (by simp) (Wk.kk) ?_
 intro R i hN hE hi hI
 simp (disch:=first | omega | decide +kernel) only [go_sem,Qa,Qb,Qc,Qd,Qe,↓reduceIte,reduceCtorEq,Qf,Qg,Qh]
 (repeat' (first | ((first | (refine gsel_split (fun q' => ?_) (fun q' => ?_)<;>(have h':=q')<;>(try simp only [za1,za2,Ba,Bb,za3,ne_eq,za4,za5,za6,Ia,Ib,Ic,Ie,Da,Bc,Bd,Be,za7,za8] at h')) | (have q':=trivial; first | refine hE _ _ ret_ne ?_ | refine hE _ _ exit_ne ?_))<;>(try simp (disch:=first | omega | decide +kernel) only [q',go_sem,Qa,Qb,Qc,Qd,Qe,↓reduceIte,reduceCtorEq,Qf,Qg,Qh])<;>clear q') | refine hN _ ?_ ?_ Wk.kk | with_reducible refine And.intro ?_ ?_ | with_reducible omega | exact ok_ints | exact cells_ints | exact no_mem | with_reducible exact plain_ints | (refine le_maxLen ?_; omega) | (refine za9 ⟨?_,?_⟩) | (simp only [go_sem,Qc,Qb,zb1,zb2,forall_eq]; done)))
 . rename_i h1
   rw [idxI_some h1 (by simp [h']) hI]
 . exact all_succ hI (by simp; exact fun h => h' h.symm)
 . rw [idxI_none fun j hj => hI j (by omega)]
theorem contains_ok (xs : List Int) (n : Int) (hl : xs.length<=4294967296) : Ctr Try.prog 137 [.ints xs,.int .i64 n] false (.d (.bool (xs.any (· == n)))) []:=by
 refine Ctr.of (n:=9) (rs:=[.tmp 4]) Try.func137 rfl rfl Try.ntmps137 rfl rfl (by kernel_rfl) Try.checked.mixed ?_
 simp (disch:=first | omega | decide +kernel) only [D.ints,go_sem,Qa,Qb,Qc,Qd,Qe,↓reduceIte,reduceCtorEq,Qf,Qg,Qh]
 (repeat' (first | ((first | (refine gsel_split (fun q' => ?_) (fun q' => ?_)<;>(have h':=q')<;>(try simp only [za1,za2,Ba,Bb,za3,ne_eq,za4,za5,za6,Ia,Ib,Ic,Ie,Da,Bc,Bd,Be,za7,za8] at h')) | (have q':=trivial; first | refine callX_new (index_ok xs n hl) rfl (by decide) ?_ | refine callY_new (index_ok xs n hl) rfl ?_ | refine hE _ _ ret_ne ?_ | refine hE _ _ exit_ne ?_))<;>(try simp (disch:=first | omega | decide +kernel) only [q',go_sem,Qa,Qb,Qc,Qd,Qe,↓reduceIte,reduceCtorEq,Qf,Qg,Qh])<;>clear q') | refine hN _ ?_ ?_ Wk.kk | with_reducible refine And.intro ?_ ?_ | with_reducible omega | exact ok_ints | exact cells_ints | exact no_mem | with_reducible exact plain_ints | (refine le_maxLen ?_; omega) | (refine za9 ⟨?_,?_⟩) | (simp only [go_sem,Qc,Qb,zb1,zb2,forall_eq]; done)))
 rw [← idxI_ge]
theorem l1Has_ok (xs : List Int) (n : Int) (hl : xs.length<=4294967296) : Ctr Try.prog 143 [.ints xs,.int .i64 n] false (.d (.bool (xs.any (· == n)))) []:=by
 refine Ctr.of (n:=18) (rs:=[.tmp 4]) Try.func143 rfl rfl Try.ntmps143 rfl rfl (by kernel_rfl) Try.checked.mixed ?_
 simp (disch:=first | omega | decide +kernel) only [D.ints,go_sem,Qa,Qb,Qc,Qd,Qe,↓reduceIte,reduceCtorEq,Qf,Qg,Qh]
 refine Ok.loopC [17,16,15,14,13,12,11,10,9,8,7,6,5,4,3,2] (fun i => [(5,.d (.int .i64 (i : Nat)))]) xs.length (fun i => ∀ j,j < i->(xs.getD j 0 == n)=false) (by simp) (Wk.kk) ?_
 intro R i hN hE hi hI
 simp (disch:=first | omega | decide +kernel) only [go_sem,Qa,Qb,Qc,Qd,Qe,↓reduceIte,reduceCtorEq,Qf,Qg,Qh]
 (repeat' (first | ((first | (refine gsel_split (fun q' => ?_) (fun q' => ?_)<;>(have h':=q')<;>(try simp only [za1,za2,Ba,Bb,za3,ne_eq,za4,za5,za6,Ia,Ib,Ic,Ie,Da,Bc,Bd,Be,za7,za8] at h')) | (have q':=trivial; first | refine hE _ _ ret_ne ?_ | refine hE _ _ exit_ne ?_))<;>(try simp (disch:=first | omega | decide +kernel) only [q',go_sem,Qa,Qb,Qc,Qd,Qe,↓reduceIte,reduceCtorEq,Qf,Qg,Qh])<;>clear q') | refine hN _ ?_ ?_ Wk.kk | with_reducible refine And.intro ?_ ?_ | with_reducible omega | exact ok_ints | exact cells_ints | exact no_mem | with_reducible exact plain_ints | (refine le_maxLen ?_; omega) | (refine za9 ⟨?_,?_⟩) | (simp only [go_sem,Qc,Qb,zb1,zb2,forall_eq]; done)))
 . rename_i h1
   rw [← idxI_ge,idxI_some h1 (by simpa using h') hI]; simp
 . exact all_succ hI (by simp; exact fun h => h' h)
 . rw [← idxI_ge,idxI_none fun j hj => hI j (by omega)]; rfl
theorem l2Has_ok (xs : List Int) (n : Int) (hl : xs.length<=4294967296) : Ctr Try.prog 108 [.ints xs,.int .i64 n] false (.d (.bool (xs.any (· == n)))) []:=by
 refine Ctr.of (n:=8) (rs:=[.tmp 4]) Try.func108 rfl rfl Try.ntmps108 rfl rfl (by kernel_rfl) Try.checked.mixed ?_
 simp (disch:=first | omega | decide +kernel) only [D.ints,go_sem,Qa,Qb,Qc,Qd,Qe,↓reduceIte,reduceCtorEq,Qf,Qg,Qh]
 (repeat' (first | ((first | (refine gsel_split (fun q' => ?_) (fun q' => ?_)<;>(have h':=q')<;>(try simp only [za1,za2,Ba,Bb,za3,ne_eq,za4,za5,za6,Ia,Ib,Ic,Ie,Da,Bc,Bd,Be,za7,za8] at h')) | (have q':=trivial; first | refine callX_new (l1Has_ok xs n hl) rfl (by decide) ?_ | refine callY_new (l1Has_ok xs n hl) rfl ?_ | refine hE _ _ ret_ne ?_ | refine hE _ _ exit_ne ?_))<;>(try simp (disch:=first | omega | decide +kernel) only [q',go_sem,Qa,Qb,Qc,Qd,Qe,↓reduceIte,reduceCtorEq,Qf,Qg,Qh])<;>clear q') | refine hN _ ?_ ?_ Wk.kk | with_reducible refine And.intro ?_ ?_ | with_reducible omega | exact ok_ints | exact cells_ints | exact no_mem | with_reducible exact plain_ints | (refine le_maxLen ?_; omega) | (refine za9 ⟨?_,?_⟩) | (simp only [go_sem,Qc,Qb,zb1,zb2,forall_eq]; done)))
def subI (a b : List Int) : Bool:=!(a.any fun x => !(b.any (· == x)))
end Abs.Y

namespace Abs.Y
open Go Go.Proofs Abs
open Nat renaming reduceEqDiff -> Qa, reduceLT -> Qb, reduceAdd -> Qc, reduceMul -> Qd, reduceSub -> Qe, reduceLeDiff -> Qf, reduceSubDiff -> Qg, reduceBEq -> Qh
open Bool renaming not_eq_true' -> Ba, not_eq_false' -> Bb, and_eq_true -> Bc, or_eq_true -> Bd, or_eq_false_iff -> Be
open Int renaming ofNat_lt -> Ia, ofNat_le -> Ib, not_lt -> Ic, not_le -> Ie
open Decidable renaming not_not -> Da
set_option maxRecDepth 100000

def okCnf (v : Int) (cs : List (List Int)) : Bool:=(okVars v && decide (cs.length<=60)) && cs.all (okClause v)
theorem okCnf_bad {v : Int} {cs : List (List Int)} {i : Nat} (h : i < cs.length) (h' : okClause v (cs.getD i [])=false) : okCnf v cs=false:=by
 rw [okCnf,all_false (z:=[]) h h',Bool.and_false]
theorem okCnf_good {v : Int} {cs : List (List Int)} (h : ∀ j,j < cs.length->okClause v (cs.getD j [])=true) : okCnf v cs=(okVars v && decide (cs.length<=60)):=by
 rw [okCnf,all_true (z:=[]) h,Bool.and_true]
theorem isCnf_ok (v : Int) (cs : List (List Int)) (hl : cs.length<=4294967296) (hc : ∀ j,(cs.getD j []).length<=4294967296) :
 Ctr Try.prog 42 [.agg [.int .i64 v,.slice (cs.map D.ints)]] false (.d (.bool (okCnf v cs))) []:=by
 refine Ctr.of (n:=27) (rs:=[.tmp 2]) Try.func42 rfl rfl Try.ntmps42 rfl rfl (by kernel_rfl) Try.checked.mixed ?_
 simp (disch:=first | omega | decide +kernel) only [go_sem,Qa,Qb,Qc,Qd,Qe,↓reduceIte,reduceCtorEq,Qf,Qg,Qh]
 refine Ok.loopC [17,16,15,14,13,12,11,10,9,8,5,4,3,2,0] (fun i => [(8,.d (.int .i64 (i : Nat)))]) cs.length (fun i => ∀ j,j < i->okClause v (cs.getD j [])=true) (by simp) (Wk.kk) ?_
 intro R i hN hE hi hI
 simp (disch:=first | omega | decide +kernel) only [go_sem,Qa,Qb,Qc,Qd,Qe,↓reduceIte,reduceCtorEq,Qf,Qg,Qh]
 (repeat' (first | ((first | (refine gsel_split (fun q' => ?_) (fun q' => ?_)<;>(have h':=q')<;>(try simp only [za1,za2,Ba,Bb,za3,ne_eq,za4,za5,za6,Ia,Ib,Ic,Ie,Da,Bc,Bd,Be,za7,za8] at h')) | (have q':=trivial; first | refine callX_new (isClause_ok v _ (hc _)) rfl (by decide) ?_ | refine callY_new (isClause_ok v _ (hc _)) rfl ?_ | refine callX_new (varsOk_ok _) rfl (by decide) ?_ | refine callY_new (varsOk_ok _) rfl ?_ | refine hE _ _ ret_ne ?_ | refine hE _ _ exit_ne ?_))<;>(try simp (disch:=first | omega | decide +kernel) only [q',go_sem,Qa,Qb,Qc,Qd,Qe,↓reduceIte,reduceCtorEq,Qf,Qg,Qh])<;>clear q') | refine hN _ ?_ ?_ Wk.kk | with_reducible refine And.intro ?_ ?_ | with_reducible omega | exact ok_ints | exact cells_ints | exact no_mem | with_reducible exact plain_ints | (refine le_maxLen ?_; omega) | (refine za9 ⟨?_,?_⟩) | (simp only [go_sem,Qc,Qb,zb1,zb2,forall_eq]; done)))
 . rename_i h1
   rw [okCnf_bad h1 h']
 . exact all_succ hI h'
 . rw [okCnf_good fun j hj => hI j (by omega),h',Bool.true_and,decide_eq_decide.2 (by omega : (cs.length : Int)<=60↔cs.length<=60)]
 . simp [okCnf,h']
theorem l2Good_ok (v : Int) (cs : List (List Int)) (hl : cs.length<=4294967296) (hc : ∀ j,(cs.getD j []).length<=4294967296) :
 Ctr Try.prog 68 [.agg [.int .i64 v,.slice (cs.map D.ints)]] false (.d (.bool (okCnf v cs))) []:=by
 refine Ctr.of (n:=30) (rs:=[.tmp 2]) Try.func68 rfl rfl Try.ntmps68 rfl rfl (by kernel_rfl) Try.checked.mixed ?_
 simp (disch:=first | omega | decide +kernel) only [go_sem,Qa,Qb,Qc,Qd,Qe,↓reduceIte,reduceCtorEq,Qf,Qg,Qh]
 (repeat' (first | ((first | (refine gsel_split (fun q' => ?_) (fun q' => ?_)<;>(have h':=q')<;>(try simp only [za1,za2,Ba,Bb,za3,ne_eq,za4,za5,za6,Ia,Ib,Ic,Ie,Da,Bc,Bd,Be,za7,za8] at h')) | (have q':=trivial; first | refine callX_new (l2Vars_ok _) rfl (by decide) ?_ | refine callY_new (l2Vars_ok _) rfl ?_ | refine hE _ _ ret_ne ?_ | refine hE _ _ exit_ne ?_))<;>(try simp (disch:=first | omega | decide +kernel) only [q',go_sem,Qa,Qb,Qc,Qd,Qe,↓reduceIte,reduceCtorEq,Qf,Qg,Qh])<;>clear q') | refine hN _ ?_ ?_ Wk.kk | with_reducible refine And.intro ?_ ?_ | with_reducible omega | exact ok_ints | exact cells_ints | exact no_mem | with_reducible exact plain_ints | (refine le_maxLen ?_; omega) | (refine za9 ⟨?_,?_⟩) | (simp only [go_sem,Qc,Qb,zb1,zb2,forall_eq]; done)))
 . simp [okCnf,h',D.plain]
 . simp [okCnf,show ¬ cs.length<=60 by omega,D.plain]
 refine Ok.loopC [29,28,27,26,25,24,23,22,21,20,19,18,17,16,15,14,13,12,11,10,9,8,7,6,5,4,3,2,0] (fun i => [(3,.d (.int .i64 (i : Nat)))]) cs.length (fun i => ∀ j,j < i->okClause v (cs.getD j [])=true) (by simp) (Wk.kk) ?_
 intro R i hN hE hi hI
 simp (disch:=first | omega | decide +kernel) only [go_sem,Qa,Qb,Qc,Qd,Qe,↓reduceIte,reduceCtorEq,Qf,Qg,Qh]
 (repeat' (first | ((first | (refine gsel_split (fun q' => ?_) (fun q' => ?_)<;>(have h':=q')<;>(try simp only [za1,za2,Ba,Bb,za3,ne_eq,za4,za5,za6,Ia,Ib,Ic,Ie,Da,Bc,Bd,Be,za7,za8] at h')) | (have q':=trivial; first | refine callX_new (l2Clause_ok v _ (hc _)) rfl (by decide) ?_ | refine callY_new (l2Clause_ok v _ (hc _)) rfl ?_ | refine hE _ _ ret_ne ?_ | refine hE _ _ exit_ne ?_))<;>(try simp (disch:=first | omega | decide +kernel) only [q',go_sem,Qa,Qb,Qc,Qd,Qe,↓reduceIte,reduceCtorEq,Qf,Qg,Qh])<;>clear q') | refine hN _ ?_ ?_ Wk.kk | with_reducible refine And.intro ?_ ?_ | with_reducible omega | exact ok_ints | exact cells_ints | exact no_mem | with_reducible exact plain_ints | (refine le_maxLen ?_; omega) | (refine za9 ⟨?_,?_⟩) | (simp only [go_sem,Qc,Qb,zb1,zb2,forall_eq]; done)))
 . rename_i h1
   rw [okCnf_bad h1 h']
 . exact all_succ hI h'
 . rename_i h0 h1
   rw [okCnf_good fun j hj => hI j (by omega),h0,decide_eq_true (by omega : cs.length<=60)]; rfl
def okEarlier (v : Int) (steps : List Step) (k i : Int) : Bool:=(decide (0<=i) && decide (i<=k - 1)) && okClause v (steps.getD i.toNat Step.z).c
end Abs.Y

namespace Abs.Y
open Go Go.Proofs Abs
open Nat renaming reduceEqDiff -> Qa, reduceLT -> Qb, reduceAdd -> Qc, reduceMul -> Qd, reduceSub -> Qe, reduceLeDiff -> Qf, reduceSubDiff -> Qg, reduceBEq -> Qh
open Bool renaming not_eq_true' -> Ba, not_eq_false' -> Bb, and_eq_true -> Bc, or_eq_true -> Bd, or_eq_false_iff -> Be
open Int renaming ofNat_lt -> Ia, ofNat_le -> Ib, not_lt -> Ic, not_le -> Ie
open Decidable renaming not_not -> Da
set_option maxRecDepth 100000

theorem l1Own_ok (xs : List Int) (hl : xs.length<=4294967296) : Ctr Try.prog 159 [.ints xs] false (.sl 0) [(0,.arr 3 1 (xs.map (.int .i64)))]:=by
 refine Ctr.of (n:=6) (rs:=[.tmp 2]) Try.func159 rfl rfl Try.ntmps159 rfl rfl (by kernel_rfl) Try.checked.mixed ?_
 simp (disch:=first | omega | decide +kernel) only [D.ints,go_sem,Qa,Qb,Qc,Qd,Qe,↓reduceIte,reduceCtorEq,Qf,Qg,Qh]
 (repeat' (first | ((first | (refine gsel_split (fun q' => ?_) (fun q' => ?_)<;>(have h':=q')<;>(try simp only [za1,za2,Ba,Bb,za3,ne_eq,za4,za5,za6,Ia,Ib,Ic,Ie,Da,Bc,Bd,Be,za7,za8] at h')) | (have q':=trivial; first | refine hE _ _ ret_ne ?_ | refine hE _ _ exit_ne ?_))<;>(try simp (disch:=first | omega | decide +kernel) only [q',go_sem,Qa,Qb,Qc,Qd,Qe,↓reduceIte,reduceCtorEq,Qf,Qg,Qh])<;>clear q') | refine hN _ ?_ ?_ Wk.kk | with_reducible refine And.intro ?_ ?_ | with_reducible omega | exact ok_ints | exact cells_ints | exact no_mem | with_reducible exact plain_ints | (refine le_maxLen ?_; omega) | (refine za9 ⟨?_,?_⟩) | (simp only [go_sem,Qc,Qb,zb1,zb2,forall_eq]; done)))
 exact ret_sl 3 rfl rfl plain_ints
theorem clone_ok (xs : List Int) (hl : xs.length<=4294967296) : Ctr Try.prog 132 [.ints xs] false (.sl 0) [(0,.arr 3 1 (xs.map (.int .i64)))]:=by
 refine Ctr.of (n:=8) (rs:=[.tmp 2]) Try.func132 rfl rfl Try.ntmps132 rfl rfl (by kernel_rfl) Try.checked.mixed ?_
 simp (disch:=first | omega | decide +kernel) only [D.ints,go_sem,Qa,Qb,Qc,Qd,Qe,↓reduceIte,reduceCtorEq,Qf,Qg,Qh]
 intro b hb
 cases b with
 | true =>
   obtain rfl : xs=[]:=by cases xs with | nil => rfl | cons x r => simp at hb
   simp (disch:=first | omega | decide +kernel) only [go_sem,Qa,Qb,Qc,Qd,Qe,↓reduceIte,reduceCtorEq,Qf,Qg,Qh]
   (repeat' (first | ((first | (refine gsel_split (fun q' => ?_) (fun q' => ?_)<;>(have h':=q')<;>(try simp only [za1,za2,Ba,Bb,za3,ne_eq,za4,za5,za6,Ia,Ib,Ic,Ie,Da,Bc,Bd,Be,za7,za8] at h')) | (have q':=trivial; first | refine hE _ _ ret_ne ?_ | refine hE _ _ exit_ne ?_))<;>(try simp (disch:=first | omega | decide +kernel) only [q',go_sem,Qa,Qb,Qc,Qd,Qe,↓reduceIte,reduceCtorEq,Qf,Qg,Qh])<;>clear q') | refine hN _ ?_ ?_ Wk.kk | with_reducible refine And.intro ?_ ?_ | with_reducible omega | exact ok_ints | exact cells_ints | exact no_mem | with_reducible exact plain_ints | (refine le_maxLen ?_; omega) | (refine za9 ⟨?_,?_⟩) | (simp only [go_sem,Qc,Qb,zb1,zb2,forall_eq]; done)))
   exact ret_sl 2 rfl rfl no_mem
 | false =>
   simp (disch:=first | omega | decide +kernel) only [go_sem,Qa,Qb,Qc,Qd,Qe,↓reduceIte,reduceCtorEq,Qf,Qg,Qh]
   (repeat' (first | ((first | (refine gsel_split (fun q' => ?_) (fun q' => ?_)<;>(have h':=q')<;>(try simp only [za1,za2,Ba,Bb,za3,ne_eq,za4,za5,za6,Ia,Ib,Ic,Ie,Da,Bc,Bd,Be,za7,za8] at h')) | (have q':=trivial; first | refine hE _ _ ret_ne ?_ | refine hE _ _ exit_ne ?_))<;>(try simp (disch:=first | omega | decide +kernel) only [q',go_sem,Qa,Qb,Qc,Qd,Qe,↓reduceIte,reduceCtorEq,Qf,Qg,Qh])<;>clear q') | refine hN _ ?_ ?_ Wk.kk | with_reducible refine And.intro ?_ ?_ | with_reducible omega | exact ok_ints | exact cells_ints | exact no_mem | with_reducible exact plain_ints | (refine le_maxLen ?_; omega) | (refine za9 ⟨?_,?_⟩) | (simp only [go_sem,Qc,Qb,zb1,zb2,forall_eq]; done)))
   exact ret_sl 5 rfl rfl plain_ints
theorem l2Without_ok (c : List Int) (v : Int) (hl : c.length<=4294967296) : Ctr Try.prog 144 [.ints c,.int .i64 v] false (.sl 0) [(0,.arr 3 1 ((c.filter fun l => varI l != v).map (.int .i64)))]:=by
 refine Ctr.of (n:=29) (rs:=[.tmp 4]) Try.func144 rfl rfl Try.ntmps144 rfl rfl (by kernel_rfl) Try.checked.mixed ?_
 simp (disch:=first | omega | decide +kernel) only [D.ints,go_sem,Qa,Qb,Qc,Qd,Qe,↓reduceIte,reduceCtorEq,Qf,Qg,Qh]
 (repeat' (first | ((first | (refine gsel_split (fun q' => ?_) (fun q' => ?_)<;>(have h':=q')<;>(try simp only [za1,za2,Ba,Bb,za3,ne_eq,za4,za5,za6,Ia,Ib,Ic,Ie,Da,Bc,Bd,Be,za7,za8] at h')) | (have q':=trivial; first | refine hE _ _ ret_ne ?_ | refine hE _ _ exit_ne ?_))<;>(try simp (disch:=first | omega | decide +kernel) only [q',go_sem,Qa,Qb,Qc,Qd,Qe,↓reduceIte,reduceCtorEq,Qf,Qg,Qh])<;>clear q') | refine hN _ ?_ ?_ Wk.kk | with_reducible refine And.intro ?_ ?_ | with_reducible omega | exact ok_ints | exact cells_ints | exact no_mem | with_reducible exact plain_ints | (refine le_maxLen ?_; omega) | (refine za9 ⟨?_,?_⟩) | (simp only [go_sem,Qc,Qb,zb1,zb2,forall_eq]; done)))
 refine Ok.loopN [27,26,25,24,23,22,21,20,19,18,17,16,15,14,13,12,11,10,9,8,7,6,5,3,2] (fun i _ => [(6,.d (.int .i64 (i : Nat))),(5,.sl 7)]) (fun _ (cur : List Int) => [(7,.arr 3 1 (cur.map (.int .i64)))]) c.length
  (fun i cur => cur.length<=i∧cur=(c.take i).filter fun l => varI l != v) [] (by simp) (Wk.kk) ?_
 rintro R i cur hN hE hi ⟨hI,hc⟩
 simp (disch:=first | omega | decide +kernel) only [go_sem,Qa,Qb,Qc,Qd,Qe,↓reduceIte,reduceCtorEq,Qf,Qg,Qh]
 (repeat' (first | ((first | (refine gsel_split (fun q' => ?_) (fun q' => ?_)<;>(have h':=q')<;>(try simp only [za1,za2,Ba,Bb,za3,ne_eq,za4,za5,za6,Ia,Ib,Ic,Ie,Da,Bc,Bd,Be,za7,za8] at h')) | (have q':=trivial; first | refine callX_new (l2Var_ok _) rfl (by decide) ?_ | refine callY_new (l2Var_ok _) rfl ?_ | refine hE _ _ ret_ne ?_ | refine hE _ _ exit_ne ?_))<;>(try simp (disch:=first | omega | decide +kernel) only [q',go_sem,Qa,Qb,Qc,Qd,Qe,↓reduceIte,reduceCtorEq,Qf,Qg,Qh])<;>clear q') | refine hN _ ?_ ?_ Wk.kk | with_reducible refine And.intro ?_ ?_ | with_reducible omega | exact ok_ints | exact cells_ints | exact no_mem | with_reducible exact plain_ints | (refine le_maxLen ?_; omega) | (refine za9 ⟨?_,?_⟩) | (simp only [go_sem,Qc,Qb,zb1,zb2,forall_eq]; done)))
 . rename_i h1
   refine hN (cur++[c.getD i 0]) _ h1 ⟨by simp; omega,?_⟩ (Wk.kk)
   rw [take_succ 0 c i h1,List.filter_append,← hc,List.filter_cons_of_pos (by simpa using h'),List.filter_nil]
 . rename_i h1
   refine hN cur _ h1 ⟨by omega,?_⟩ (Wk.kk)
   rw [take_succ 0 c i h1,List.filter_append,← hc,List.filter_cons_of_neg (by simpa using h'),List.filter_nil,List.append_nil]
 . rw [show cur=c.filter fun l => varI l != v by rw [hc,List.take_of_length_le (by omega)]]
   exact ret_sl 7 rfl rfl plain_ints
def putI (c : List Int) (l : Int) : List Int:=c.takeWhile (fun x => decide (varI x < varI l))++l :: c.dropWhile (fun x => decide (varI x < varI l))
theorem takeWhile_at {p : Int->Bool} {c : List Int} {k : Nat} (hk : k<=c.length) (h : ∀ j,j < k->p (c.getD j 0)=true) (h' : k=c.length∨p (c.getD k 0)=false) : c.takeWhile p=c.take k∧c.dropWhile p=c.drop k:=by
 induction c generalizing k with
 | nil => obtain rfl : k = 0 := by simpa using hk
          simp
 | cons x r ih =>
   cases k with
   | zero =>
     have hx : p x = false := by rcases h' with h' | h'
                                 . simp at h'
                                 . simpa using h'
     simp [hx]
   | succ k =>
     have hx : p x=true:=by simpa using h 0 (by omega)
     obtain ⟨h1,h2⟩:=ih (k:=k) (by simpa using hk) (fun j hj => by simpa using h (j + 1) (by omega)) (by simpa using h')
     simp [hx,h1,h2]
theorem l2Put_ok (c : List Int) (l : Int) (hl : c.length<=4294967296) : Ctr Try.prog 145 [.ints c,.int .i64 l] false (.sl 0) [(0,.arr 3 1 ((putI c l).map (.int .i64)))]:=by
 refine Ctr.of (n:=33) (rs:=[.tmp 4]) Try.func145 rfl rfl Try.ntmps145 rfl rfl (by kernel_rfl) Try.checked.mixed ?_
 simp (disch:=first | omega | decide +kernel) only [D.ints,go_sem,Qa,Qb,Qc,Qd,Qe,↓reduceIte,reduceCtorEq,Qf,Qg,Qh]
 (repeat' (first | ((first | (refine gsel_split (fun q' => ?_) (fun q' => ?_)<;>(have h':=q')<;>(try simp only [za1,za2,Ba,Bb,za3,ne_eq,za4,za5,za6,Ia,Ib,Ic,Ie,Da,Bc,Bd,Be,za7,za8] at h')) | (have q':=trivial; first | refine hE _ _ ret_ne ?_ | refine hE _ _ exit_ne ?_))<;>(try simp (disch:=first | omega | decide +kernel) only [q',go_sem,Qa,Qb,Qc,Qd,Qe,↓reduceIte,reduceCtorEq,Qf,Qg,Qh])<;>clear q') | refine hN _ ?_ ?_ Wk.kk | with_reducible refine And.intro ?_ ?_ | with_reducible omega | exact ok_ints | exact cells_ints | exact no_mem | with_reducible exact plain_ints | (refine le_maxLen ?_; omega) | (refine za9 ⟨?_,?_⟩) | (simp only [go_sem,Qc,Qb,zb1,zb2,forall_eq]; done)))
 refine Ok.loopC [21,20,19,18,17,16,15,14,13,12,11,10,9,8,7,6,5,3,2] (fun i => [(5,.d (.int .i64 (i : Nat)))]) c.length (fun i => ∀ j,j < i->varI (c.getD j 0) < varI l) (by simp) (Wk.kk) ?_
 intro R i hN hE hi hI
 simp (disch:=first | omega | decide +kernel) only [go_sem,Qa,Qb,Qc,Qd,Qe,↓reduceIte,reduceCtorEq,Qf,Qg,Qh]
 (repeat' (first | ((first | (refine gsel_split (fun q' => ?_) (fun q' => ?_)<;>(have h':=q')<;>(try simp only [za1,za2,Ba,Bb,za3,ne_eq,za4,za5,za6,Ia,Ib,Ic,Ie,Da,Bc,Bd,Be,za7,za8] at h')) | (have q':=trivial; first | refine callX_new (l2Var_ok _) rfl (by decide) ?_ | refine callY_new (l2Var_ok _) rfl ?_ | refine callX_new (l1Own_ok (c.take i) (by simp; omega)) rfl (by decide) ?_ | refine callY_new (l1Own_ok (c.take i) (by simp; omega)) rfl ?_ | refine hE _ _ ret_ne ?_ | refine hE _ _ exit_ne ?_))<;>(try simp (disch:=first | omega | decide +kernel) only [q',go_sem,Qa,Qb,Qc,Qd,Qe,↓reduceIte,reduceCtorEq,Qf,Qg,Qh])<;>clear q') | refine hN _ ?_ ?_ Wk.kk | with_reducible refine And.intro ?_ ?_ | with_reducible omega | exact ok_ints | exact cells_ints | exact no_mem | with_reducible exact plain_ints | (refine le_maxLen ?_; omega) | (refine za9 ⟨?_,?_⟩) | (simp only [go_sem,Qc,Qb,zb1,zb2,forall_eq]; done)))
 . exact all_succ hI h'
 . have hw:=takeWhile_at (p:=fun x => decide (varI x < varI l)) (Nat.le_of_lt ‹i < c.length›) (fun j hj => by simpa using hI j hj) (.inr (by simpa using h'))
   refine ret_sl 2600000 rfl ?_ plain_ints
   simp only [lk,if_true]
   rw [putI,hw.1,hw.2,List.take_of_length_le (l:=c.drop _) (by rw [List.length_drop]; exact Nat.le_refl _)]
   simp
 . obtain rfl : i=c.length:=by omega
   have hw:=takeWhile_at (p:=fun x => decide (varI x < varI l)) hi (fun j hj => by simpa using hI j hj) (.inl rfl)
   refine ret_sl 2600000 rfl ?_ plain_ints
   simp only [lk,if_true]
   rw [putI,hw.1,hw.2,List.take_of_length_le (l:=c.drop _) (by rw [List.length_drop]; exact Nat.le_refl _)]
   simp
theorem length_putI (c : List Int) (l : Int) : (putI c l).length=c.length + 1:=by
 have:=congrArg List.length (List.takeWhile_append_dropWhile (p:=fun x => decide (varI x < varI l)) (l:=c))
 simp only [List.length_append] at this
 simp only [putI,List.length_append,List.length_cons]; omega
def joinI : List Int->List Int->Option (List Int)
 | a,[] => some a
 | a,x :: r => if a.any (· == IntKind.i64.wrap (0 - x)) then none else joinI (if a.any (· == x) then a else putI a x) r
def optL (o : Option (List Int)) : List Int:=match o with | some c => c | none => []
def resolveI (a b : List Int) (v : Int) : Option (List Int) :=
 if (a.any (· == v) && b.any (· == IntKind.i64.wrap (0 - v)))=true then joinI (a.filter fun l => varI l != v) (b.filter fun l => varI l != v) else none
end Abs.Y
