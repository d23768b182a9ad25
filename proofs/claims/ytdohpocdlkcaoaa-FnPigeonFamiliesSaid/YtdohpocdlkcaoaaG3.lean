/- What functions of this program compute, over plain data. No condition. -/
import Derived.Test.YtdohpocdlkcaoaaG1
set_option linter.all false
namespace Abs.Y
open Go Go.Proofs Abs
open Nat renaming reduceEqDiff -> Qa, reduceLT -> Qb, reduceAdd -> Qc, reduceMul -> Qd, reduceSub -> Qe, reduceLeDiff -> Qf, reduceSubDiff -> Qg, reduceBEq -> Qh
open Bool renaming not_eq_true' -> Ba, not_eq_false' -> Bb, and_eq_true -> Bc, or_eq_true -> Bd, or_eq_false_iff -> Be
open Int renaming ofNat_lt -> Ia, ofNat_le -> Ib, not_lt -> Ic, not_le -> Ie
open Decidable renaming not_not -> Da
set_option maxRecDepth 100000

def idxI (p : Int->Bool) (xs : List Int) : Int:=match xs.findIdx? p with | some i => (i : Nat) | none => -1
theorem idxI_some {p : Int->Bool} {xs : List Int} {i : Nat} (h : i < xs.length) (hp : p (xs.getD i 0)=true) (hn : ∀ j,j < i->p (xs.getD j 0)=false) : idxI p xs=i:=by
 have : xs.findIdx? p=some i:=by
  rw [List.findIdx?_eq_some_iff_getElem]
  refine ⟨h,by simpa [List.getD_eq_getElem?_getD,h] using hp,fun j hj => ?_⟩
  have h2 : j < xs.length:=by omega
  simpa [List.getD_eq_getElem?_getD,h2] using hn j hj
 rw [idxI,this]
theorem idxI_none {p : Int->Bool} {xs : List Int} (hn : ∀ j,j < xs.length->p (xs.getD j 0)=false) : idxI p xs=-1:=by
 have : xs.findIdx? p=none:=by
  rw [List.findIdx?_eq_none_iff]
  intro x hx
  obtain ⟨j,hj,rfl⟩:=List.getElem_of_mem hx
  have:=hn j hj
  simpa [List.getD_eq_getElem?_getD,hj] using this
 rw [idxI,this]
theorem idxI_ge {p : Int->Bool} {xs : List Int} : decide (0<=idxI p xs)=xs.any p:=by
 unfold idxI
 cases h : xs.findIdx? p with
 | none =>
   rw [List.findIdx?_eq_none_iff] at h
   have : xs.any p=false:=by rw [List.any_eq_false]; exact fun x hx => by simp [h x hx]
   rw [this]; rfl
 | some i =>
   obtain ⟨h1,h2,_⟩:=List.findIdx?_eq_some_iff_getElem.1 h
   have : xs.any p=true:=List.any_eq_true.2 ⟨_,List.getElem_mem h1,h2⟩
   rw [this]; simp
theorem index_ok (xs : List Int) (n : Int) (hl : xs.length<=4294967296) : Ctr Try.prog 222 [.ints xs,.int .i64 n] false (.d (.int .i64 (idxI (· == n) xs))) []:=by
 refine Ctr.of (n:=19) (rs:=[.tmp 4]) Try.func222 rfl rfl Try.ntmps222 rfl rfl (by kernel_rfl) Try.checked.mixed ?_
 simp (disch:=first | omega | decide +kernel) only [D.ints,go_sem,Qa,Qb,Qc,Qd,Qe,↓reduceIte,reduceCtorEq,Qf,Qg,Qh]
 refine Ok.loopC [18,17,16,15,14,13,12,11,10,9,8,6,5,4,3,2] (fun i => [(8,.d (.int .i64 (i : Nat)))]) xs.length (fun i => ∀ j,j < i->(xs.getD j 0 == n)=false) (by simp) (Wk.kk) ?_
 intro R i hN hE hi hI
 simp (disch:=first | omega | decide +kernel) only [go_sem,Qa,Qb,Qc,Qd,Qe,↓reduceIte,reduceCtorEq,Qf,Qg,Qh]
 (repeat' (first | ((first | (refine gsel_split (fun q' => ?_) (fun q' => ?_)<;>(have h':=q')<;>(try simp only [za1,za2,Ba,Bb,za3,ne_eq,za4,za5,za6,Ia,Ib,Ic,Ie,Da,Bc,Bd,Be,za7,za8] at h')) | (have q':=trivial; first | refine hE _ _ ret_ne ?_ | refine hE _ _ exit_ne ?_))<;>(try simp (disch:=first | omega | decide +kernel) only [q',go_sem,Qa,Qb,Qc,Qd,Qe,↓reduceIte,reduceCtorEq,Qf,Qg,Qh])<;>clear q') | refine hN _ ?_ ?_ Wk.kk | with_reducible refine And.intro ?_ ?_ | with_reducible omega | exact ok_ints | exact cells_ints | exact no_mem | with_reducible exact plain_ints | (refine le_maxLen ?_; omega) | (refine za9 ⟨?_,?_⟩) | (simp only [go_sem,Qc,Qb,zb1,zb2,forall_eq]; done)))
 . rename_i h1
   rw [idxI_some h1 (by simp [h']) hI]
 . exact all_succ hI (by simp; exact fun h => h' h.symm)
 . rw [idxI_none fun j hj => hI j (by omega)]
theorem contains_ok (xs : List Int) (n : Int) (hl : xs.length<=4294967296) : Ctr Try.prog 179 [.ints xs,.int .i64 n] false (.d (.bool (xs.any (· == n)))) []:=by
 refine Ctr.of (n:=9) (rs:=[.tmp 4]) Try.func179 rfl rfl Try.ntmps179 rfl rfl (by kernel_rfl) Try.checked.mixed ?_
 simp (disch:=first | omega | decide +kernel) only [D.ints,go_sem,Qa,Qb,Qc,Qd,Qe,↓reduceIte,reduceCtorEq,Qf,Qg,Qh]
 (repeat' (first | ((first | (refine gsel_split (fun q' => ?_) (fun q' => ?_)<;>(have h':=q')<;>(try simp only [za1,za2,Ba,Bb,za3,ne_eq,za4,za5,za6,Ia,Ib,Ic,Ie,Da,Bc,Bd,Be,za7,za8] at h')) | (have q':=trivial; first | refine callX_new (index_ok xs n hl) rfl (by decide) ?_ | refine callY_new (index_ok xs n hl) rfl ?_ | refine hE _ _ ret_ne ?_ | refine hE _ _ exit_ne ?_))<;>(try simp (disch:=first | omega | decide +kernel) only [q',go_sem,Qa,Qb,Qc,Qd,Qe,↓reduceIte,reduceCtorEq,Qf,Qg,Qh])<;>clear q') | refine hN _ ?_ ?_ Wk.kk | with_reducible refine And.intro ?_ ?_ | with_reducible omega | exact ok_ints | exact cells_ints | exact no_mem | with_reducible exact plain_ints | (refine le_maxLen ?_; omega) | (refine za9 ⟨?_,?_⟩) | (simp only [go_sem,Qc,Qb,zb1,zb2,forall_eq]; done)))
 rw [← idxI_ge]
def subI (a b : List Int) : Bool:=!(a.any fun x => !(b.any (· == x)))
end Abs.Y

namespace Abs.Y
open Go Go.Proofs Abs
open Nat renaming reduceEqDiff -> Qa, reduceLT -> Qb, reduceAdd -> Qc, reduceMul -> Qd, reduceSub -> Qe, reduceLeDiff -> Qf, reduceSubDiff -> Qg, reduceBEq -> Qh
open Bool renaming not_eq_true' -> Ba, not_eq_false' -> Bb, and_eq_true -> Bc, or_eq_true -> Bd, or_eq_false_iff -> Be
open Int renaming ofNat_lt -> Ia, ofNat_le -> Ib, not_lt -> Ic, not_le -> Ie
open Decidable renaming not_not -> Da
set_option maxRecDepth 100000

def okCnf (v : Int) (cs : List (List Int)) : Bool:=(okVars v && decide (cs.length<=60)) && cs.all (okClause v)
theorem okCnf_bad {v : Int} {cs : List (List Int)} {i : Nat} (h : i < cs.length) (h' : okClause v (cs.getD i [])=false) : okCnf v cs=false:=by
 rw [okCnf,all_false (z:=[]) h h',Bool.and_false]
theorem okCnf_good {v : Int} {cs : List (List Int)} (h : ∀ j,j < cs.length->okClause v (cs.getD j [])=true) : okCnf v cs=(okVars v && decide (cs.length<=60)):=by
 rw [okCnf,all_true (z:=[]) h,Bool.and_true]
theorem isCnf_ok (v : Int) (cs : List (List Int)) (hl : cs.length<=4294967296) (hc : ∀ j,(cs.getD j []).length<=4294967296) :
 Ctr Try.prog 99 [.agg [.int .i64 v,.slice (cs.map D.ints)]] false (.d (.bool (okCnf v cs))) []:=by
 refine Ctr.of (n:=27) (rs:=[.tmp 2]) Try.func99 rfl rfl Try.ntmps99 rfl rfl (by kernel_rfl) Try.checked.mixed ?_
 simp (disch:=first | omega | decide +kernel) only [go_sem,Qa,Qb,Qc,Qd,Qe,↓reduceIte,reduceCtorEq,Qf,Qg,Qh]
 refine Ok.loopC [17,16,15,14,13,12,11,10,9,8,5,4,3,2,0] (fun i => [(8,.d (.int .i64 (i : Nat)))]) cs.length (fun i => ∀ j,j < i->okClause v (cs.getD j [])=true) (by simp) (Wk.kk) ?_
 intro R i hN hE hi hI
 simp (disch:=first | omega | decide +kernel) only [go_sem,Qa,Qb,Qc,Qd,Qe,↓reduceIte,reduceCtorEq,Qf,Qg,Qh]
 (repeat' (first | ((first | (refine gsel_split (fun q' => ?_) (fun q' => ?_)<;>(have h':=q')<;>(try simp only [za1,za2,Ba,Bb,za3,ne_eq,za4,za5,za6,Ia,Ib,Ic,Ie,Da,Bc,Bd,Be,za7,za8] at h')) | (have q':=trivial; first | refine callX_new (isClause_ok v _ (hc _)) rfl (by decide) ?_ | refine callY_new (isClause_ok v _ (hc _)) rfl ?_ | refine callX_new (varsOk_ok _) rfl (by decide) ?_ | refine callY_new (varsOk_ok _) rfl ?_ | refine hE _ _ ret_ne ?_ | refine hE _ _ exit_ne ?_))<;>(try simp (disch:=first | omega | decide +kernel) only [q',go_sem,Qa,Qb,Qc,Qd,Qe,↓reduceIte,reduceCtorEq,Qf,Qg,Qh])<;>clear q') | refine hN _ ?_ ?_ Wk.kk | with_reducible refine And.intro ?_ ?_ | with_reducible omega | exact ok_ints | exact cells_ints | exact no_mem | with_reducible exact plain_ints | (refine le_maxLen ?_; omega) | (refine za9 ⟨?_,?_⟩) | (simp only [go_sem,Qc,Qb,zb1,zb2,forall_eq]; done)))
 . rename_i h1
   rw [okCnf_bad h1 h']
 . exact all_succ hI h'
 . rw [okCnf_good fun j hj => hI j (by omega),h',Bool.true_and,decide_eq_decide.2 (by omega : (cs.length : Int)<=60↔cs.length<=60)]
 . simp [okCnf,h']
def okEarlier (v : Int) (steps : List Step) (k i : Int) : Bool:=(decide (0<=i) && decide (i<=k - 1)) && okClause v (steps.getD i.toNat Step.z).c
end Abs.Y
