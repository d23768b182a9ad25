/- What functions of this program compute, over plain data. No condition. -/
import Derived.Test.YtdohpocdlkcaoaaG1
import Derived.Test.YtdohpocdlkcaoaaAbsRow
set_option linter.all false
namespace Abs.Y
open Go Go.Proofs Abs
open Nat renaming reduceEqDiff -> Qa, reduceLT -> Qb, reduceAdd -> Qc, reduceMul -> Qd, reduceSub -> Qe, reduceLeDiff -> Qf, reduceSubDiff -> Qg, reduceBEq -> Qh
open Bool renaming not_eq_true' -> Ba, not_eq_false' -> Bb, and_eq_true -> Bc, or_eq_true -> Bd, or_eq_false_iff -> Be
open Int renaming ofNat_lt -> Ia, ofNat_le -> Ib, not_lt -> Ic, not_le -> Ie
open Decidable renaming not_not -> Da
set_option maxRecDepth 100000

def idxI (p : Int->Bool) (xs : List Int) : Int:=match xs.findIdx? p with | some i => (i : Nat) | none => -1
theorem idxI_some {p : Int->Bool} {xs : List Int} {i : Nat} (h : i < xs.length) (hp : p (xs.getD i 0)=true) (hn : ∀ j,j < i->p (xs.getD j 0)=false) : idxI p xs=i:=by
 have : xs.findIdx? p=some i:=by
  rw [List.findIdx?_eq_some_iff_getElem]
  refine ⟨h,by simpa [List.getD_eq_getElem?_getD,h] using hp,fun j hj => ?_⟩
  have h2 : j < xs.length:=by omega
  simpa [List.getD_eq_getElem?_getD,h2] using hn j hj
 rw [idxI,this]
theorem idxI_none {p : Int->Bool} {xs : List Int} (hn : ∀ j,j < xs.length->p (xs.getD j 0)=false) : idxI p xs=-1:=by
 have : xs.findIdx? p=none:=by
  rw [List.findIdx?_eq_none_iff]
  intro x hx
  obtain ⟨j,hj,rfl⟩:=List.getElem_of_mem hx
  have:=hn j hj
  simpa [List.getD_eq_getElem?_getD,hj] using this
 rw [idxI,this]
theorem idxI_ge {p : Int->Bool} {xs : List Int} : decide (0<=idxI p xs)=xs.any p:=by
 unfold idxI
 cases h : xs.findIdx? p with
 | none =>
   rw [List.findIdx?_eq_none_iff] at h
   have : xs.any p=false:=by rw [List.any_eq_false]; exact fun x hx => by simp [h x hx]
   rw [this]; rfl
 | some i =>
   obtain ⟨h1,h2,_⟩:=List.findIdx?_eq_some_iff_getElem.1 h
   have : xs.any p=true:=List.any_eq_true.2 ⟨_,List.getElem_mem h1,h2⟩
   rw [this]; simp
theorem l1Has_ok (xs : List Int) (n : Int) (hl : xs.length<=4294967296) : Ctr Try.prog 226 [.ints xs,.int .i64 n] false (.d (.bool (xs.any (· == n)))) []:=by
 refine Ctr.of (n:=18) (rs:=[.tmp 4]) Try.func226 rfl rfl Try.ntmps226 rfl rfl (by kernel_rfl) Try.checked.mixed ?_
 simp (disch:=first | omega | decide +kernel) only [D.ints,go_sem,Qa,Qb,Qc,Qd,Qe,↓reduceIte,reduceCtorEq,Qf,Qg,Qh]
 refine Ok.loopC [17,16,15,14,13,12,11,10,9,8,7,6,5,4,3,2] (fun i => [(5,.d (.int .i64 (i : Nat)))]) xs.length (fun i => ∀ j,j < i->(xs.getD j 0 == n)=false) (by simp) (Wk.kk) ?_
 intro R i hN hE hi hI
 simp (disch:=first | omega | decide +kernel) only [go_sem,Qa,Qb,Qc,Qd,Qe,↓reduceIte,reduceCtorEq,Qf,Qg,Qh]
 (repeat' (first | ((first | (refine gsel_split (fun q' => ?_) (fun q' => ?_)<;>(have h':=q')<;>(try simp only [za1,za2,Ba,Bb,za3,ne_eq,za4,za5,za6,Ia,Ib,Ic,Ie,Da,Bc,Bd,Be,za7,za8] at h')) | (have q':=trivial; first | refine hE _ _ ret_ne ?_ | refine hE _ _ exit_ne ?_))<;>(try simp (disch:=first | omega | decide +kernel) only [q',go_sem,Qa,Qb,Qc,Qd,Qe,↓reduceIte,reduceCtorEq,Qf,Qg,Qh])<;>clear q') | refine hN _ ?_ ?_ Wk.kk | with_reducible refine And.intro ?_ ?_ | with_reducible omega | exact ok_ints | exact cells_ints | exact no_mem | with_reducible exact plain_ints | (refine le_maxLen ?_; omega) | (refine za9 ⟨?_,?_⟩) | (simp only [go_sem,Qc,Qb,zb1,zb2,forall_eq]; done)))
 . rename_i h1
   rw [← idxI_ge,idxI_some h1 (by simpa using h') hI]; simp
 . exact all_succ hI (by simp; exact fun h => h' h)
 . rw [← idxI_ge,idxI_none fun j hj => hI j (by omega)]; rfl
theorem l2Has_ok (xs : List Int) (n : Int) (hl : xs.length<=4294967296) : Ctr Try.prog 182 [.ints xs,.int .i64 n] false (.d (.bool (xs.any (· == n)))) []:=by
 refine Ctr.of (n:=8) (rs:=[.tmp 4]) Try.func182 rfl rfl Try.ntmps182 rfl rfl (by kernel_rfl) Try.checked.mixed ?_
 simp (disch:=first | omega | decide +kernel) only [D.ints,go_sem,Qa,Qb,Qc,Qd,Qe,↓reduceIte,reduceCtorEq,Qf,Qg,Qh]
 (repeat' (first | ((first | (refine gsel_split (fun q' => ?_) (fun q' => ?_)<;>(have h':=q')<;>(try simp only [za1,za2,Ba,Bb,za3,ne_eq,za4,za5,za6,Ia,Ib,Ic,Ie,Da,Bc,Bd,Be,za7,za8] at h')) | (have q':=trivial; first | refine callX_new (l1Has_ok xs n hl) rfl (by decide) ?_ | refine callY_new (l1Has_ok xs n hl) rfl ?_ | refine hE _ _ ret_ne ?_ | refine hE _ _ exit_ne ?_))<;>(try simp (disch:=first | omega | decide +kernel) only [q',go_sem,Qa,Qb,Qc,Qd,Qe,↓reduceIte,reduceCtorEq,Qf,Qg,Qh])<;>clear q') | refine hN _ ?_ ?_ Wk.kk | with_reducible refine And.intro ?_ ?_ | with_reducible omega | exact ok_ints | exact cells_ints | exact no_mem | with_reducible exact plain_ints | (refine le_maxLen ?_; omega) | (refine za9 ⟨?_,?_⟩) | (simp only [go_sem,Qc,Qb,zb1,zb2,forall_eq]; done)))
def subI (a b : List Int) : Bool:=!(a.any fun x => !(b.any (· == x)))
theorem l1Same_ok (a b : List Int) (hl : a.length<=4294967296) : Ctr Try.prog 215 [.ints a,.ints b] false (.d (.bool (decide (a=b)))) []:=by
 refine Ctr.of (n:=26) (rs:=[.tmp 4]) Try.func215 rfl rfl Try.ntmps215 rfl rfl (by kernel_rfl) Try.checked.mixed ?_
 simp (disch:=first | omega | decide +kernel) only [D.ints,go_sem,Qa,Qb,Qc,Qd,Qe,↓reduceIte,reduceCtorEq,Qf,Qg,Qh]
 (repeat' (first | ((first | (refine gsel_split (fun q' => ?_) (fun q' => ?_)<;>(have h':=q')<;>(try simp only [za1,za2,Ba,Bb,za3,ne_eq,za4,za5,za6,Ia,Ib,Ic,Ie,Da,Bc,Bd,Be,za7,za8] at h')) | (have q':=trivial; first | refine hE _ _ ret_ne ?_ | refine hE _ _ exit_ne ?_))<;>(try simp (disch:=first | omega | decide +kernel) only [q',go_sem,Qa,Qb,Qc,Qd,Qe,↓reduceIte,reduceCtorEq,Qf,Qg,Qh])<;>clear q') | refine hN _ ?_ ?_ Wk.kk | with_reducible refine And.intro ?_ ?_ | with_reducible omega | exact ok_ints | exact cells_ints | exact no_mem | with_reducible exact plain_ints | (refine le_maxLen ?_; omega) | (refine za9 ⟨?_,?_⟩) | (simp only [go_sem,Qc,Qb,zb1,zb2,forall_eq]; done)))
 . have : ¬ a=b:=by rintro rfl; simp at h'
   simp [this,D.plain]
 refine Ok.loopC [25,24,23,22,21,20,19,18,17,16,15,14,13,12,11,10,9,8,7,6,5,4,3,2] (fun i => [(5,.d (.int .i64 (i : Nat)))]) a.length (fun i => ∀ j,j < i->a.getD j 0=b.getD j 0) (by simp) (Wk.kk) ?_
 intro R i hN hE hi hI
 simp (disch:=first | omega | decide +kernel) only [go_sem,Qa,Qb,Qc,Qd,Qe,↓reduceIte,reduceCtorEq,Qf,Qg,Qh]
 (repeat' (first | ((first | (refine gsel_split (fun q' => ?_) (fun q' => ?_)<;>(have h':=q')<;>(try simp only [za1,za2,Ba,Bb,za3,ne_eq,za4,za5,za6,Ia,Ib,Ic,Ie,Da,Bc,Bd,Be,za7,za8] at h')) | (have q':=trivial; first | refine hE _ _ ret_ne ?_ | refine hE _ _ exit_ne ?_))<;>(try simp (disch:=first | omega | decide +kernel) only [q',go_sem,Qa,Qb,Qc,Qd,Qe,↓reduceIte,reduceCtorEq,Qf,Qg,Qh])<;>clear q') | refine hN _ ?_ ?_ Wk.kk | with_reducible refine And.intro ?_ ?_ | with_reducible omega | exact ok_ints | exact cells_ints | exact no_mem | with_reducible exact plain_ints | (refine le_maxLen ?_; omega) | (refine za9 ⟨?_,?_⟩) | (simp only [go_sem,Qc,Qb,zb1,zb2,forall_eq]; done)))
 . rename_i h1 h2
   have : ¬ a=b:=by rintro rfl; exact h' rfl
   simp [this,D.plain]
 . exact all_succ hI h'
 . rename_i h1
   have : a=b:=ext_getDz 0 (by omega) fun j hj => hI j (by omega)
   simp [this,D.plain]
end Abs.Y

namespace Abs

def szL {α : Type} (f : α->Int->Int) : List α->Int->Int
 | [],left => left
 | x :: r,left => if f x left < 0 then -1 else szL f r (f x left)
def szS {α : Type} (f : α->Int->Int) (a : List α) (left : Int) : Int:=if left - a.length < 0 then -1 else szL f a (left - a.length)
def szI (a : List Int) (left : Int) : Int:=if left - a.length < 0 then -1 else left - a.length
def SzF {α : Type} (f : α->Int->Int) : Prop:=∀ x left,0<=left->f x left=-1∨(0<=f x left∧f x left<=left)
theorem szI_szF : SzF szI:=fun x left h => by unfold szI; split<;>omega
theorem szL_szF {α : Type} {f : α->Int->Int} (hf : SzF f) : ∀ (l : List α) (left : Int),0<=left->szL f l left=-1∨(0<=szL f l left∧szL f l left<=left)
 | [],left,h => .inr ⟨h,Int.le_refl _⟩
 | x :: r, left, h => by
   simp only [szL]
   split
   . exact .inl rfl
   . rcases hf x left h with h1 | h1
     . omega
     . have:=szL_szF hf r (f x left) h1.1; omega
theorem szS_szF {α : Type} {f : α->Int->Int} (hf : SzF f) : SzF (szS f):=fun x left h => by
 unfold szS
 split
 . exact .inl rfl
 . have:=szL_szF hf x (left - x.length) (by omega); omega
theorem szL_each {α : Type} {f : α->Int->Int} (hf : SzF f) : ∀ (l : List α) (left : Int),0<=left->0<=szL f l left->∀ x ∈ l,∃ y,0<=y∧y<=left∧0<=f x y
 | [],_,_,_,x,hx => by cases hx
 | y :: r, left, h, h2, x, hx => by
   simp only [szL] at h2
   split at h2
   . omega
   . rename_i h3
     rcases List.mem_cons.1 hx with rfl | hx
     . exact ⟨left,h,Int.le_refl _,by omega⟩
     . obtain ⟨z,h4,h5,h6⟩:=szL_each hf r (f y left) (by omega) h2 x hx
       rcases hf y left h with h7 | h7
       . omega
       . exact ⟨z,h4,by omega,h6⟩
theorem szS_len {α : Type} {f : α->Int->Int} {a : List α} {left : Int} (h : 0<=szS f a left) : (a.length : Int)<=left:=by
 unfold szS at h; split at h<;>omega
theorem szS_each {α : Type} {f : α->Int->Int} (hf : SzF f) {a : List α} {left : Int} (h : 0<=szS f a left) : ∀ x ∈ a,∃ y,0<=y∧y<=left∧0<=f x y:=by
 have hl:=szS_len h
 unfold szS at h
 split at h
 . omega
 . intro x hx
   obtain ⟨y,h1,h2,h3⟩:=szL_each hf a _ (by omega) h x hx
   exact ⟨y,h1,by omega,h3⟩
theorem szI_len {a : List Int} {left : Int} (h : 0<=szI a left) : (a.length : Int)<=left:=by
 unfold szI at h; split at h<;>omega
end Abs
