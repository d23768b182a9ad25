/- What functions of this program compute, over plain data. No condition. -/
import Derived.Test.YtkccabajcdphkaaGreatFacts
import Derived.Test.YtkccabajcdphkaaGreatAbsBox
import Derived.Test.YtkccabajcdphkaaGreatAbsRow
set_option linter.all false
open Nat renaming reduceEqDiff -> Qa, reduceLT -> Qb, reduceAdd -> Qc, reduceMul -> Qd, reduceSub -> Qe, reduceLeDiff -> Qf, reduceSubDiff -> Qg, reduceBEq -> Qh
open Bool renaming not_eq_true' -> Ba, not_eq_false' -> Bb, and_eq_true -> Bc, or_eq_true -> Bh, or_eq_false_iff -> Be
open Int renaming ofNat_lt -> Ia, ofNat_le -> Ib, not_lt -> Ic, not_le -> Ie
open Decidable renaming not_not -> Da
namespace Abs.Y
open Go Go.Proofs Abs
set_option maxRecDepth 100000

theorem xo2 (n lo hi : Int) : Ctr Tryz.prog 42 [.int .i64 n,.int .i64 lo,.int .i64 hi] false (.d (.bool (decide (lo<=n) && decide (n<=hi)))) []:=by
 refine Ctr.of (n:=15) (rs:=[.tmp 6]) Tryz.func42 rfl rfl Tryz.ntmps42 rfl rfl (by kernel_rfl) Tryz.checked.mixed ?_
 simp (disch:=first | omega | decide +kernel) only [go_sem,Qa,Qb,Qc,Qd,Qe,↓reduceIte,reduceCtorEq,Qf,Qg,Qh]
 (repeat' (first | ((first | (refine xa0 ?_ ?_<;>intro q'<;>(have h':=q')<;>(try simp only [zz] at h')<;>try (exfalso; omega)) | (have q':=trivial; first | refine hE _ _ xa5 ?_ | refine hE _ _ xa2 ?_))<;>(try simp (disch:=first | omega | decide +kernel) only [q',go_sem,Qa,Qb,Qc,Qd,Qe,↓reduceIte,reduceCtorEq,Qf,Qg,Qh])<;>clear q') | (with_reducible first | refine And.intro ?_ ?_ | omega) | (refine xa1 ?_; omega)))
theorem xu5 (x a b : Int) : Ctr Tryz.prog 80 [.int .i64 x,.int .i64 a,.int .i64 b] false (.d (.bool (decide (a<=x) && decide (x<=b)))) []:=by
 refine Ctr.of (n:=15) (rs:=[.tmp 6]) Tryz.func80 rfl rfl Tryz.ntmps80 rfl rfl (by kernel_rfl) Tryz.checked.mixed ?_
 simp (disch:=first | omega | decide +kernel) only [go_sem,Qa,Qb,Qc,Qd,Qe,↓reduceIte,reduceCtorEq,Qf,Qg,Qh]
 (repeat' (first | ((first | (refine xa0 ?_ ?_<;>intro q'<;>(have h':=q')<;>(try simp only [zz] at h')<;>try (exfalso; omega)) | (have q':=trivial; first | refine hE _ _ xa5 ?_ | refine hE _ _ xa2 ?_))<;>(try simp (disch:=first | omega | decide +kernel) only [q',go_sem,Qa,Qb,Qc,Qd,Qe,↓reduceIte,reduceCtorEq,Qf,Qg,Qh])<;>clear q') | (with_reducible first | refine And.intro ?_ ?_ | omega) | (refine xa1 ?_; omega)))
def absI (n : Int) : Int:=if IntKind.i64.wrap (0 - n) > n then IntKind.i64.wrap (0 - n) else n
theorem zu1 (n : Int) : Ctr Tryz.prog 125 [.int .i64 n] false (.d (.int .i64 (absI n))) []:=by
 refine Ctr.of (n:=7) (rs:=[.tmp 2]) Tryz.func125 rfl rfl Tryz.ntmps125 rfl rfl (by kernel_rfl) Tryz.checked.mixed ?_
 simp (disch:=first | omega | decide +kernel) only [go_sem,Qa,Qb,Qc,Qd,Qe,↓reduceIte,reduceCtorEq,Qf,Qg,Qh]
 simp [absI]
def varI (n : Int) : Int:=if n < 0 then IntKind.i64.wrap (0 - n) else n
def xk1 (v : Int) : Bool:=decide (0<=v) && decide (v<=12)
theorem yb9 (v : Int) : Ctr Tryz.prog 90 [.int .i64 v] false (.d (.bool (xk1 v))) []:=by
 refine Ctr.of (n:=5) (rs:=[.tmp 2]) Tryz.func90 rfl rfl Tryz.ntmps90 rfl rfl (by kernel_rfl) Tryz.checked.mixed ?_
 simp (disch:=first | omega | decide +kernel) only [go_sem,Qa,Qb,Qc,Qd,Qe,↓reduceIte,reduceCtorEq,Qf,Qg,Qh]
 (repeat' (first | ((first | (refine xa0 ?_ ?_<;>intro q'<;>(have h':=q')<;>(try simp only [zz] at h')<;>try (exfalso; omega)) | (have q':=trivial; first | refine xa3 (xo2 _ _ _) rfl (by decide) ?_ | refine xa4 (xo2 _ _ _) rfl ?_ | refine hE _ _ xa5 ?_ | refine hE _ _ xa2 ?_))<;>(try simp (disch:=first | omega | decide +kernel) only [q',go_sem,Qa,Qb,Qc,Qd,Qe,↓reduceIte,reduceCtorEq,Qf,Qg,Qh])<;>clear q') | (with_reducible first | refine And.intro ?_ ?_ | omega) | (refine xa1 ?_; omega)))
 rfl
theorem l2Vars_ok (v : Int) : Ctr Tryz.prog 103 [.int .i64 v] false (.d (.bool (xk1 v))) []:=by
 refine Ctr.of (n:=5) (rs:=[.tmp 2]) Tryz.func103 rfl rfl Tryz.ntmps103 rfl rfl (by kernel_rfl) Tryz.checked.mixed ?_
 simp (disch:=first | omega | decide +kernel) only [go_sem,Qa,Qb,Qc,Qd,Qe,↓reduceIte,reduceCtorEq,Qf,Qg,Qh]
 (repeat' (first | ((first | (refine xa0 ?_ ?_<;>intro q'<;>(have h':=q')<;>(try simp only [zz] at h')<;>try (exfalso; omega)) | (have q':=trivial; first | refine xa3 (xu5 _ _ _) rfl (by decide) ?_ | refine xa4 (xu5 _ _ _) rfl ?_ | refine hE _ _ xa5 ?_ | refine hE _ _ xa2 ?_))<;>(try simp (disch:=first | omega | decide +kernel) only [q',go_sem,Qa,Qb,Qc,Qd,Qe,↓reduceIte,reduceCtorEq,Qf,Qg,Qh])<;>clear q') | (with_reducible first | refine And.intro ?_ ?_ | omega) | (refine xa1 ?_; omega)))
 rfl
def zo9 (v l : Int) : Bool:=decide (l ≠ 0) && (decide (IntKind.i64.wrap (0 - v)<=l) && decide (l<=v))
theorem yi4 (v l : Int) : Ctr Tryz.prog 124 [.int .i64 v,.int .i64 l] false (.d (.bool (zo9 v l))) []:=by
 refine Ctr.of (n:=14) (rs:=[.tmp 4]) Tryz.func124 rfl rfl Tryz.ntmps124 rfl rfl (by kernel_rfl) Tryz.checked.mixed ?_
 simp (disch:=first | omega | decide +kernel) only [go_sem,Qa,Qb,Qc,Qd,Qe,↓reduceIte,reduceCtorEq,Qf,Qg,Qh]
 (repeat' (first | ((first | (refine xa0 ?_ ?_<;>intro q'<;>(have h':=q')<;>(try simp only [zz] at h')<;>try (exfalso; omega)) | (have q':=trivial; first | refine xa3 (xo2 _ _ _) rfl (by decide) ?_ | refine xa4 (xo2 _ _ _) rfl ?_ | refine hE _ _ xa5 ?_ | refine hE _ _ xa2 ?_))<;>(try simp (disch:=first | omega | decide +kernel) only [q',go_sem,Qa,Qb,Qc,Qd,Qe,↓reduceIte,reduceCtorEq,Qf,Qg,Qh])<;>clear q') | (with_reducible first | refine And.intro ?_ ?_ | omega) | (refine xa1 ?_; omega)))
 . simp [zo9,h']
 . simp [zo9,h']
def okAt (v : Int) (c : List Int) (j : Nat) : Prop:=(c.getD j 0 ≠ 0∧-v<=c.getD j 0∧c.getD j 0<=v)∧(0 < j->(c.getD (j - 1) 0).natAbs < (c.getD j 0).natAbs)
instance (v c j) : Decidable (okAt v c j):=by unfold okAt; infer_instance
def xe6 (v : Int) (c : List Int) : Bool:=xk1 v && decide (∀ j,j < c.length->okAt v c j)
theorem xs8 {v : Int} : xk1 v=true↔0<=v∧v<=12:=by simp [xk1]
theorem yn3 {v l : Int} (h : xk1 v=true) : zo9 v l=true↔l ≠ 0∧-v<=l∧l<=v:=by
 rw [xs8] at h
 simp only [zo9,xv7 (n:=0 - v) (by omega)]; simp
theorem yr8 {n : Int} (h : -9223372036854775807<=n∧n<=9223372036854775807) : absI n=n.natAbs:=by
 rw [absI,xv7 (n:=0 - n) (by omega)]; split<;>omega
theorem ya3 {v : Int} {c : List Int} {i : Nat} (hi : i < c.length) (h : xk1 v=true->¬ okAt v c i) : xe6 v c=false:=by
 cases hv : xk1 v with
 | false => simp [xe6,hv]
 | true =>
   have : ¬ ∀ j,j < c.length->okAt v c j:=fun hh => h hv (hh i hi)
   simp only [xe6,this,decide_false,Bool.and_false]
theorem okClause_true {v : Int} {c : List Int} (h : xk1 v=true->∀ j,j < c.length->okAt v c j) : xe6 v c=xk1 v:=by
 cases hv : xk1 v with
 | false => simp [xe6,hv]
 | true =>
   have:=decide_eq_true (h hv)
   rw [xe6,this,hv,Bool.and_true]
theorem okAt_small {v : Int} {c : List Int} {j : Nat} (hv : xk1 v=true) (h : okAt v c j) : -12<=c.getD j 0∧c.getD j 0<=12:=by
 rw [xs8] at hv; obtain ⟨⟨_,_,_⟩,_⟩:=h; omega
theorem zl3 {v : Int} {c : List Int} {i : Nat} (f : Int->Int) (hf : ∀ n,-9223372036854775807<=n∧n<=9223372036854775807->f n=n.natAbs) (hv : xk1 v=true) (hI : ∀ j,j < i->okAt v c j) (hl : zo9 v (c.getD i 0)=true) :
 okAt v c i↔(0 < i->f (c.getD (i - 1) 0) < f (c.getD i 0)):=by
 rw [yn3 hv] at hl
 have hv':=xs8.1 hv
 rw [okAt,and_iff_right hl]
 refine imp_congr_right fun h0 => ?_
 have h1:=okAt_small hv (hI (i - 1) (by omega))
 rw [hf _ (by omega),hf (c.getD i 0) (by omega)]
 omega
theorem yp6 (v : Int) (c : List Int) (hl : c.length<=4294967296) : Ctr Tryz.prog 89 [.int .i64 v,.ints c] false (.d (.bool (xe6 v c))) []:=by
 refine Ctr.of (n:=36) (rs:=[.tmp 4]) Tryz.func89 rfl rfl Tryz.ntmps89 rfl rfl (by kernel_rfl) Tryz.checked.mixed ?_
 simp (disch:=first | omega | decide +kernel) only [D.ints,go_sem,Qa,Qb,Qc,Qd,Qe,↓reduceIte,reduceCtorEq,Qf,Qg,Qh]
 refine Ok.loopC [33,32,31,30,29,28,27,26,25,24,23,22,21,20,19,18,17,16,15,14,13,12,11,10,9,6,5,4,3,2] (fun i => [(9,.d (.int .i64 (i : Nat)))]) c.length (fun i => xk1 v=true->∀ j,j < i->okAt v c j) (by simp) (Wk.kk) ?_
 intro R i hN hE hi hI
 simp (disch:=first | omega | decide +kernel) only [go_sem,Qa,Qb,Qc,Qd,Qe,↓reduceIte,reduceCtorEq,Qf,Qg,Qh]
 (repeat' (first | ((first | (refine xa0 ?_ ?_<;>intro q'<;>(have h':=q')<;>(try simp only [zz] at h')) | (have q':=trivial; first | refine xa3 (yi4 _ _) rfl (by decide) ?_ | refine xa4 (yi4 _ _) rfl ?_ | refine xa3 (zu1 _) rfl (by decide) ?_ | refine xa4 (zu1 _) rfl ?_ | refine xa3 (yb9 _) rfl (by decide) ?_ | refine xa4 (yb9 _) rfl ?_ | refine hE _ _ xa5 ?_ | refine hE _ _ xa2 ?_))<;>(try simp (disch:=first | omega | decide +kernel) only [q',go_sem,Qa,Qb,Qc,Qd,Qe,↓reduceIte,reduceCtorEq,Qf,Qg,Qh])<;>clear q') | refine hN _ ?_ ?_ Wk.kk | (with_reducible first | refine And.intro ?_ ?_ | omega) | exact xb8 | exact xa8 | exact xa6 | with_reducible exact xa7 | (refine xa1 ?_; omega) | (refine za9 ⟨?_,?_⟩) | (simp only [go_sem,Qc,Qb,zb1,zb2,forall_eq]; done)))
 . rename_i h1
   rw [ya3 h1 fun hv h => by rw [(yn3 hv).2 h.1] at h'; cases h']
 . rename_i h1 h2 h3
   rw [ya3 h1 fun hv h => by rw [zl3 absI (fun n => yr8) hv (hI hv) h2] at h; omega]
 . rename_i h1 h2 h3
   exact fun hv => xi8 (hI hv) ((zl3 absI (fun n => yr8) hv (hI hv) h2).2 fun _ => h')
 . rename_i h1 h2
   exact fun hv => xi8 (hI hv) ⟨(yn3 hv).1 h2,fun h => by omega⟩
 . rw [okClause_true fun hv j hj => hI hv j (by omega)]
end Abs.Y

namespace Abs.Y
open Go Go.Proofs Abs
set_option maxRecDepth 100000

def idxI (p : Int->Bool) (xs : List Int) : Int:=match xs.findIdx? p with | some i => (i : Nat) | none => -1
theorem zd9 {p : Int->Bool} {xs : List Int} {i : Nat} (h : i < xs.length) (hp : p (xs.getD i 0)=true) (hn : ∀ j,j < i->p (xs.getD j 0)=false) : idxI p xs=i:=by
 have : xs.findIdx? p=some i:=by
  rw [List.findIdx?_eq_some_iff_getElem]
  refine ⟨h,by simpa [List.getD_eq_getElem?_getD,h] using hp,fun j hj => ?_⟩
  have h2 : j < xs.length:=by omega
  simpa [List.getD_eq_getElem?_getD,h2] using hn j hj
 rw [idxI,this]
theorem ze0 {p : Int->Bool} {xs : List Int} (hn : ∀ j,j < xs.length->p (xs.getD j 0)=false) : idxI p xs=-1:=by
 have : xs.findIdx? p=none:=by
  rw [List.findIdx?_eq_none_iff]
  intro x hx
  obtain ⟨j,hj,rfl⟩:=List.getElem_of_mem hx
  have:=hn j hj
  simpa [List.getD_eq_getElem?_getD,hj] using this
 rw [idxI,this]
theorem zh8 {p : Int->Bool} {xs : List Int} : decide (0<=idxI p xs)=xs.any p:=by
 unfold idxI
 cases h : xs.findIdx? p with
 | none =>
   rw [List.findIdx?_eq_none_iff] at h
   have : xs.any p=false:=by rw [List.any_eq_false]; exact fun x hx => by simp [h x hx]
   rw [this]; rfl
 | some i =>
   obtain ⟨h1,h2,_⟩:=List.findIdx?_eq_some_iff_getElem.1 h
   have : xs.any p=true:=List.any_eq_true.2 ⟨_,List.getElem_mem h1,h2⟩
   rw [this]; simp
theorem l1Has_ok (xs : List Int) (n : Int) (hl : xs.length<=4294967296) : Ctr Tryz.prog 88 [.ints xs,.int .i64 n] false (.d (.bool (xs.any (· == n)))) []:=by
 refine Ctr.of (n:=18) (rs:=[.tmp 4]) Tryz.func88 rfl rfl Tryz.ntmps88 rfl rfl (by kernel_rfl) Tryz.checked.mixed ?_
 simp (disch:=first | omega | decide +kernel) only [D.ints,go_sem,Qa,Qb,Qc,Qd,Qe,↓reduceIte,reduceCtorEq,Qf,Qg,Qh]
 refine Ok.loopC [17,16,15,14,13,12,11,10,9,8,7,6,5,4,3,2] (fun i => [(5,.d (.int .i64 (i : Nat)))]) xs.length (fun i => ∀ j,j < i->(xs.getD j 0 == n)=false) (by simp) (Wk.kk) ?_
 intro R i hN hE hi hI
 simp (disch:=first | omega | decide +kernel) only [go_sem,Qa,Qb,Qc,Qd,Qe,↓reduceIte,reduceCtorEq,Qf,Qg,Qh]
 (repeat' (first | ((first | (refine xa0 ?_ ?_<;>intro q'<;>(have h':=q')<;>(try simp only [zz] at h')) | (have q':=trivial; first | refine hE _ _ xa5 ?_ | refine hE _ _ xa2 ?_))<;>(try simp (disch:=first | omega | decide +kernel) only [q',go_sem,Qa,Qb,Qc,Qd,Qe,↓reduceIte,reduceCtorEq,Qf,Qg,Qh])<;>clear q') | refine hN _ ?_ ?_ Wk.kk | (with_reducible first | refine And.intro ?_ ?_ | omega) | exact xb8 | exact xa8 | exact xa6 | with_reducible exact xa7 | (refine xa1 ?_; omega) | (refine za9 ⟨?_,?_⟩) | (simp only [go_sem,Qc,Qb,zb1,zb2,forall_eq]; done)))
 . rename_i h1
   rw [← zh8,zd9 h1 (by simpa using h') hI]; simp
 . exact xi8 hI (by simp; exact fun h => h' h)
 . rw [← zh8,ze0 fun j hj => hI j (by omega)]; rfl
def subI (a b : List Int) : Bool:=!(a.any fun x => !(b.any (· == x)))
theorem l1Same_ok (a b : List Int) (hl : a.length<=4294967296) : Ctr Tryz.prog 120 [.ints a,.ints b] false (.d (.bool (decide (a=b)))) []:=by
 refine Ctr.of (n:=26) (rs:=[.tmp 4]) Tryz.func120 rfl rfl Tryz.ntmps120 rfl rfl (by kernel_rfl) Tryz.checked.mixed ?_
 simp (disch:=first | omega | decide +kernel) only [D.ints,go_sem,Qa,Qb,Qc,Qd,Qe,↓reduceIte,reduceCtorEq,Qf,Qg,Qh]
 (repeat' (first | ((first | (refine xa0 ?_ ?_<;>intro q'<;>(have h':=q')<;>(try simp only [zz] at h')) | (have q':=trivial; first | refine hE _ _ xa5 ?_ | refine hE _ _ xa2 ?_))<;>(try simp (disch:=first | omega | decide +kernel) only [q',go_sem,Qa,Qb,Qc,Qd,Qe,↓reduceIte,reduceCtorEq,Qf,Qg,Qh])<;>clear q') | refine hN _ ?_ ?_ Wk.kk | (with_reducible first | refine And.intro ?_ ?_ | omega) | exact xb8 | exact xa8 | exact xa6 | with_reducible exact xa7 | (refine xa1 ?_; omega) | (refine za9 ⟨?_,?_⟩) | (simp only [go_sem,Qc,Qb,zb1,zb2,forall_eq]; done)))
 . have : ¬ a=b:=by rintro rfl; simp at h'
   simp [this,D.plain]
 refine Ok.loopC [25,24,23,22,21,20,19,18,17,16,15,14,13,12,11,10,9,8,7,6,5,4,3,2] (fun i => [(5,.d (.int .i64 (i : Nat)))]) a.length (fun i => ∀ j,j < i->a.getD j 0=b.getD j 0) (by simp) (Wk.kk) ?_
 intro R i hN hE hi hI
 simp (disch:=first | omega | decide +kernel) only [go_sem,Qa,Qb,Qc,Qd,Qe,↓reduceIte,reduceCtorEq,Qf,Qg,Qh]
 (repeat' (first | ((first | (refine xa0 ?_ ?_<;>intro q'<;>(have h':=q')<;>(try simp only [zz] at h')) | (have q':=trivial; first | refine hE _ _ xa5 ?_ | refine hE _ _ xa2 ?_))<;>(try simp (disch:=first | omega | decide +kernel) only [q',go_sem,Qa,Qb,Qc,Qd,Qe,↓reduceIte,reduceCtorEq,Qf,Qg,Qh])<;>clear q') | refine hN _ ?_ ?_ Wk.kk | (with_reducible first | refine And.intro ?_ ?_ | omega) | exact xb8 | exact xa8 | exact xa6 | with_reducible exact xa7 | (refine xa1 ?_; omega) | (refine za9 ⟨?_,?_⟩) | (simp only [go_sem,Qc,Qb,zb1,zb2,forall_eq]; done)))
 . rename_i h1 h2
   have : ¬ a=b:=by rintro rfl; exact h' rfl
   simp [this,D.plain]
 . exact xi8 hI h'
 . rename_i h1
   have : a=b:=zf0 0 (by omega) fun j hj => hI j (by omega)
   simp [this,D.plain]
end Abs.Y

namespace Abs

def szL {α : Type} (f : α->Int->Int) : List α->Int->Int
 | [],left => left
 | x :: r,left => if f x left < 0 then -1 else szL f r (f x left)
def szS {α : Type} (f : α->Int->Int) (a : List α) (left : Int) : Int:=if left - a.length < 0 then -1 else szL f a (left - a.length)
def szI (a : List Int) (left : Int) : Int:=if left - a.length < 0 then -1 else left - a.length
def SzF {α : Type} (f : α->Int->Int) : Prop:=∀ x left,0<=left->f x left=-1∨(0<=f x left∧f x left<=left)
end Abs

namespace Abs.Y
open Go Go.Proofs Abs
set_option maxRecDepth 100000

end Abs.Y

namespace Abs.Y
open Go Go.Proofs Abs
set_option maxRecDepth 100000

end Abs.Y

namespace Abs.Y
open Go Go.Proofs Abs
set_option maxRecDepth 100000

def putZ : List Int->Int->List Int
 | [],n => [n]
 | x :: r,n => if x < n then x :: putZ r n else if x=n then x :: r else n :: x :: r
def Asc (l : List Int) : Prop:=l.Pairwise (· < ·)
theorem yx5 {n : Int} : ∀ {l : List Int} {x : Int},x ∈ putZ l n↔x=n∨x ∈ l
 | [],x => by simp [putZ]
 | y :: r, x => by
   simp only [putZ]
   split
   . simp only [List.mem_cons,yx5 (l:=r)]
     constructor
     . rintro (h | h | h)<;>simp [h]
     . rintro (h | h | h)<;>simp [h]
   . split
     . rename_i h; subst h; simp
     . simp
theorem zk7 {n : Int} : ∀ {l : List Int},Asc l->Asc (putZ l n)
 | [],_ => by simp [putZ,Asc]
 | y :: r, h => by
   have p:=List.pairwise_cons.1 h
   simp only [putZ]
   split
   . rename_i h1
     refine List.pairwise_cons.2 ⟨fun z hz => ?_,zk7 p.2⟩
     rcases yx5.1 hz with rfl | hz
     . exact h1
     . exact p.1 z hz
   . split
     . exact h
     . rename_i h1 h2
       refine List.pairwise_cons.2 ⟨fun z hz => ?_,h⟩
       rcases List.mem_cons.1 hz with rfl | hz
       . omega
       . have:=p.1 z hz; omega
theorem zq5 {n : Int} : ∀ {l : List Int} {k : Nat},k<=l.length->(∀ j,j < k->l.getD j 0 < n)->(k < l.length->n<=l.getD k 0) ->
 putZ l n=if k < l.length∧l.getD k 0=n then l else l.take k++n :: l.drop k
 | [], k, hk, _, _ => by
   obtain rfl : k=0:=by simpa using hk
   simp [putZ]
 | x :: r, 0, _, _, h => by
   have hx : n<=x:=by simpa using h
   simp only [putZ]
   rw [if_neg (by omega)]
   by_cases e : x=n
   . simp [e]
   . simp [e]
 | x :: r, k + 1, hk, h1, h2 => by
   have hx : x < n:=by simpa using h1 0 (by omega)
   have ih:=zq5 (l:=r) (k:=k) (by simpa using hk) (fun j hj => by simpa using h1 (j + 1) (by omega)) (fun hl => by simpa using h2 (by simpa using hl))
   simp only [putZ,if_pos hx,ih,List.length_cons,List.getD_cons_succ,Nat.succ_lt_succ_iff,List.take_succ_cons,List.drop_succ_cons]
   split<;>simp
theorem yz3 : ∀ {l1 l2 : List Int},Asc l1->Asc l2->(∀ x,x ∈ l1↔x ∈ l2)->l1=l2
 | [],[],_,_,_ => rfl
 | [],y :: s,_,_,h => absurd ((h y).2 (by simp)) (by simp)
 | x :: r,[],_,_,h => absurd ((h x).1 (by simp)) (by simp)
 | x :: r, y :: s, g1, g2, h => by
   have p1:=List.pairwise_cons.1 g1
   have p2:=List.pairwise_cons.1 g2
   have hxy : x=y:=by
    rcases List.mem_cons.1 ((h x).1 (by simp)) with e | hx
    . exact e
    . rcases List.mem_cons.1 ((h y).2 (by simp)) with e | hy
      . exact e.symm
      . have:=p1.1 y hy; have:=p2.1 x hx; omega
   subst hxy
   rw [yz3 (l1:=r) (l2:=s) p1.2 p2.2 fun z => ?_]
   constructor
   . intro hz
     rcases List.mem_cons.1 ((h z).1 (by simp [hz])) with rfl | h'
     . have:=p1.1 z hz; omega
     . exact h'
   . intro hz
     rcases List.mem_cons.1 ((h z).2 (by simp [hz])) with rfl | h'
     . have:=p2.1 z hz; omega
     . exact h'
def xl1 (l xs : List Int) : List Int:=xs.foldl putZ l
theorem xw5 : ∀ {xs l : List Int},Asc l->Asc (xl1 l xs)∧∀ x,x ∈ xl1 l xs↔x ∈ l∨x ∈ xs
 | [],l,h => ⟨h,by simp [xl1]⟩
 | y :: r, l, h => by
   obtain ⟨h1,h2⟩:=xw5 (xs:=r) (zk7 (n:=y) h)
   refine ⟨h1,fun x => ?_⟩
   show x ∈ xl1 (putZ l y) r↔_
   rw [h2,yx5]
   simp only [List.mem_cons]
   constructor
   . rintro ((h | h) | h)<;>simp [h]
   . rintro (h | h | h)<;>simp [h]
def xq4 (xs : List Int) : List Int:=xs.mergeSort fun x y => decide (x<=y)
theorem xn3 (xs : List Int) : (xq4 xs).Perm xs:=List.mergeSort_perm xs _
theorem yl8 {xs : List Int} (h : xs.Nodup) : Asc (xq4 xs):=by
 have h1 : (xq4 xs).Pairwise fun x y => decide (x<=y)=true:=List.pairwise_mergeSort (fun a b c h1 h2 => by simp only [decide_eq_true_eq] at *; omega) (fun a b => by simp only [Bh,decide_eq_true_eq]; omega) xs
 have h2 : (xq4 xs).Nodup:=(xn3 xs).nodup_iff.2 h
 refine (List.Pairwise.and h1 h2).imp fun {x y} ⟨h3,h4⟩ => ?_
 simp only [decide_eq_true_eq] at h3
 omega
theorem sort_put {xs : List Int} (h : xs.Nodup) : xl1 [] xs=xq4 xs :=
 yz3 (xw5 List.Pairwise.nil).1 (yl8 h) fun x => by
  rw [(xw5 List.Pairwise.nil).2,(xn3 xs).mem_iff]; simp
end Abs.Y

namespace Abs.Y
open Go Go.Proofs Abs
set_option maxRecDepth 100000

structure Chg where
 n : Int
 ed : List (Int × Int)
 ch : List Int
deriving DecidableEq
def D.ed (e : Int × Int) : D:=.agg [.int .i64 e.1,.int .i64 e.2]
def D.chg (g : Chg) : D:=.agg [.int .i64 g.n,.slice (g.ed.map D.ed),D.ints g.ch]
theorem xg3 {xs : List (Int × Int)} {i : Nat} (h : i < xs.length) : el (xs.map D.ed) i=.agg [.int .i64 (xs.getD i (0,0)).1,.int .i64 (xs.getD i (0,0)).2]:=xv3 (f:=D.ed) (0,0) h
theorem xd0 : Int.toNat 1=1:=rfl
theorem xl9 {x : D} {r : List D} : el (x :: r) 0=x:=rfl
theorem xm9 {x y : D} {r : List D} : el (x :: y :: r) 1=y:=rfl
def atB (g : Chg) (v : Int) (k : Nat) : Bool:=decide ((g.ed.getD k (0,0)).1=v) || decide ((g.ed.getD k (0,0)).2=v)
theorem zy6 {g : Chg} {v : Int} {k : Nat} (h : (g.ed.getD k (0,0)).1=v) : atB g v k=true:=by unfold atB; rw [decide_eq_true h]; rfl
theorem zy5 {g : Chg} {v : Int} {k : Nat} (h : (g.ed.getD k (0,0)).2=v) : atB g v k=true:=by unfold atB; rw [decide_eq_true h,Bool.or_true]
theorem zz9 {g : Chg} {v : Int} {k : Nat} (h : ¬ (g.ed.getD k (0,0)).1=v) (h2 : ¬ (g.ed.getD k (0,0)).2=v) : ¬ atB g v k=true:=by unfold atB; rw [decide_eq_false h,decide_eq_false h2]; simp
def xg5 (g : Chg) (v : Int) (m : Nat) : List Int:=((List.range m).filter (atB g v)).map fun (k : Nat) => (k : Int)
def xb0 (g : Chg) (v : Int) : List Int:=xg5 g v g.ed.length
theorem yi8 (g : Chg) (v : Int) (m : Nat) : xg5 g v (m + 1)=if atB g v m=true then xg5 g v m++[(m : Int)] else xg5 g v m:=by
 unfold xg5
 rw [List.range_succ,List.filter_append,List.map_append]
 cases h : atB g v m<;>simp [h]
theorem xg4 (g : Chg) (v : Int) (m : Nat) : (xg5 g v m).length<=m:=by
 unfold xg5
 rw [List.length_map]
 have:=List.length_filter_le (atB g v) (List.range m)
 simpa using this
theorem xk2 {g : Chg} {v k : Int} (h : k ∈ xb0 g v) : 0<=k∧k.toNat < g.ed.length∧((g.ed.getD k.toNat (0,0)).1=v∨(g.ed.getD k.toNat (0,0)).2=v):=by
 unfold xb0 xg5 at h
 obtain ⟨j,hj,rfl⟩:=List.mem_map.1 h
 obtain ⟨h1,h2⟩:=List.mem_filter.1 hj
 have h3 : j < g.ed.length:=List.mem_range.1 h1
 have e : ((j : Int)).toNat=j:=by omega
 rw [e]
 refine ⟨by omega,h3,?_⟩
 simpa [atB] using h2
set_option maxHeartbeats 4000000 in
theorem zv1 (g : Chg) (v : Int) (hl : g.ed.length<=4294967296) : Ctr Tryz.prog 37 [D.chg g,.int .i64 v] false (.sl 0) [(0,.arr 3 1 ((xb0 g v).map (.int .i64)))]:=by
 refine Ctr.of (n:=32) (rs:=[.tmp 4]) Tryz.func37 rfl rfl Tryz.ntmps37 rfl rfl (by kernel_rfl) Tryz.checked.mixed ?_
 simp (disch:=first | omega | decide +kernel) only [D.chg,D.ints,go_sem,Qa,Qb,Qc,Qd,Qe,↓reduceIte,reduceCtorEq,Qf,Qg,Qh]
 (repeat' (first | ((first | (refine xa0 ?_ ?_<;>intro q'<;>(have h':=q')<;>(try simp only [zz] at h')) | (have q':=trivial; first | refine hE _ _ xa5 ?_ | refine hE _ _ xa2 ?_))<;>(try simp (disch:=first | omega | decide +kernel) only [q',go_sem,Qa,Qb,Qc,Qd,Qe,↓reduceIte,reduceCtorEq,Qf,Qg,Qh])<;>clear q') | refine hN _ ?_ ?_ Wk.kk | (with_reducible first | refine And.intro ?_ ?_ | omega) | exact xb8 | exact xa8 | exact xa6 | with_reducible exact xa7 | (refine xa1 ?_; omega) | (refine za9 ⟨?_,?_⟩) | (simp only [go_sem,Qc,Qb,zb1,zb2,forall_eq]; done)))
 refine Ok.loopN [30,29,28,27,26,25,24,23,22,21,20,19,18,17,16,15,14,13,12,11,8,7,6,5,3,2,0] (fun i _ => [(11,.d (.int .i64 (i : Nat))),(5,.sl 5)]) (fun _ (cur : List Int) => [(5,.arr 3 1 (cur.map (.int .i64)))]) g.ed.length
  (fun i cur => cur=xg5 g v i) [] (by simp [xg5]) (Wk.kk) ?_
 rintro R i cur hN hE hi rfl
 have hll:=xg4 g v i
 have hsu:=yi8 g v i
 by_cases hlt : i < g.ed.length
 . simp (disch:=first | omega | decide +kernel) only [xg3,xl9,xm9,xd0,go_sem,Qa,Qb,Qc,Qd,Qe,↓reduceIte,reduceCtorEq,Qf,Qg,Qh]
   (repeat' (first | ((first | (refine xa0 ?_ ?_<;>intro q'<;>(have h':=q')<;>(try simp only [zz] at h')<;>try (exfalso; omega)) | (have q':=trivial; first | refine hE _ _ xa5 ?_ | refine hE _ _ xa2 ?_))<;>(try simp (disch:=first | omega | decide +kernel) only [q',xg3,xl9,xm9,xd0,go_sem,Qa,Qb,Qc,Qd,Qe,↓reduceIte,reduceCtorEq,Qf,Qg,Qh])<;>clear q') | (with_reducible first | refine And.intro ?_ ?_ | omega) | exact xa6 | (refine xa1 ?_; omega) | (refine za9 ⟨?_,?_⟩) | (simp only [go_sem,Qc,Qb,zb1,zb2,forall_eq]; done)))
   all_goals (first | (refine hN (xg5 g v i++[(i : Int)]) _ hlt (by rw [hsu,if_pos (by first | exact zy6 (by assumption) | exact zy5 (by assumption))]) (Wk.kk); done) | (refine hN (xg5 g v i) _ hlt (by rw [hsu,if_neg (zz9 (by assumption) (by assumption))]) (Wk.kk); done))
 . obtain rfl : i=g.ed.length:=by omega
   simp (disch:=first | omega | decide +kernel) only [xg3,xl9,xm9,xd0,go_sem,Qa,Qb,Qc,Qd,Qe,↓reduceIte,reduceCtorEq,Qf,Qg,Qh]
   (repeat' (first | ((first | (refine xa0 ?_ ?_<;>intro q'<;>(have h':=q')<;>(try simp only [zz] at h')<;>try (exfalso; omega)) | (have q':=trivial; first | refine hE _ _ xa5 ?_ | refine hE _ _ xa2 ?_))<;>(try simp (disch:=first | omega | decide +kernel) only [q',xg3,xl9,xm9,xd0,go_sem,Qa,Qb,Qc,Qd,Qe,↓reduceIte,reduceCtorEq,Qf,Qg,Qh])<;>clear q') | (with_reducible first | refine And.intro ?_ ?_ | omega) | exact xa6 | (refine xa1 ?_; omega) | (refine za9 ⟨?_,?_⟩) | (simp only [go_sem,Qc,Qb,zb1,zb2,forall_eq]; done)))
   exact yt4 5 rfl rfl xa7
set_option maxHeartbeats 4000000 in
theorem ye0 (g : Chg) (v : Int) (hl : g.ed.length<=4294967296) : Ctr Tryz.prog 81 [D.chg g,.int .i64 v] false (.sl 0) [(0,.arr 3 1 ((xb0 g v).map (.int .i64)))]:=by
 refine Ctr.of (n:=38) (rs:=[.tmp 4]) Tryz.func81 rfl rfl Tryz.ntmps81 rfl rfl (by kernel_rfl) Tryz.checked.mixed ?_
 simp (disch:=first | omega | decide +kernel) only [D.chg,D.ints,go_sem,Qa,Qb,Qc,Qd,Qe,↓reduceIte,reduceCtorEq,Qf,Qg,Qh]
 (repeat' (first | ((first | (refine xa0 ?_ ?_<;>intro q'<;>(have h':=q')<;>(try simp only [zz] at h')) | (have q':=trivial; first | refine hE _ _ xa5 ?_ | refine hE _ _ xa2 ?_))<;>(try simp (disch:=first | omega | decide +kernel) only [q',go_sem,Qa,Qb,Qc,Qd,Qe,↓reduceIte,reduceCtorEq,Qf,Qg,Qh])<;>clear q') | refine hN _ ?_ ?_ Wk.kk | (with_reducible first | refine And.intro ?_ ?_ | omega) | exact xb8 | exact xa8 | exact xa6 | with_reducible exact xa7 | (refine xa1 ?_; omega) | (refine za9 ⟨?_,?_⟩) | (simp only [go_sem,Qc,Qb,zb1,zb2,forall_eq]; done)))
 refine Ok.loopN [36,35,34,33,32,31,30,29,28,27,26,25,24,23,22,21,20,19,18,17,16,15,14,13,12,11,10,9,8,7,6,5,3,0] (fun i _ => [(6,.d (.int .i64 (i : Nat))),(5,.sl 7)]) (fun _ (cur : List Int) => [(7,.arr 3 1 (cur.map (.int .i64)))]) g.ed.length
  (fun i cur => cur=xg5 g v i) [] (by simp [xg5]) (Wk.kk) ?_
 rintro R i cur hN hE hi rfl
 have hll:=xg4 g v i
 have hsu:=yi8 g v i
 by_cases hlt : i < g.ed.length
 . simp (disch:=first | omega | decide +kernel) only [xg3,xl9,xm9,xd0,go_sem,Qa,Qb,Qc,Qd,Qe,↓reduceIte,reduceCtorEq,Qf,Qg,Qh]
   (repeat' (first | ((first | (refine xa0 ?_ ?_<;>intro q'<;>(have h':=q')<;>(try simp only [zz] at h')<;>try (exfalso; omega)) | (have q':=trivial; first | refine hE _ _ xa5 ?_ | refine hE _ _ xa2 ?_))<;>(try simp (disch:=first | omega | decide +kernel) only [q',xg3,xl9,xm9,xd0,go_sem,Qa,Qb,Qc,Qd,Qe,↓reduceIte,reduceCtorEq,Qf,Qg,Qh])<;>clear q') | (with_reducible first | refine And.intro ?_ ?_ | omega) | exact xa6 | (refine xa1 ?_; omega) | (refine za9 ⟨?_,?_⟩) | (simp only [go_sem,Qc,Qb,zb1,zb2,forall_eq]; done)))
   all_goals (first | (refine hN (xg5 g v i++[(i : Int)]) _ hlt (by rw [hsu,if_pos (by first | exact zy6 (by assumption) | exact zy5 (by assumption))]) (Wk.kk); done) | (refine hN (xg5 g v i) _ hlt (by rw [hsu,if_neg (zz9 (by assumption) (by assumption))]) (Wk.kk); done))
 . obtain rfl : i=g.ed.length:=by omega
   simp (disch:=first | omega | decide +kernel) only [xg3,xl9,xm9,xd0,go_sem,Qa,Qb,Qc,Qd,Qe,↓reduceIte,reduceCtorEq,Qf,Qg,Qh]
   (repeat' (first | ((first | (refine xa0 ?_ ?_<;>intro q'<;>(have h':=q')<;>(try simp only [zz] at h')<;>try (exfalso; omega)) | (have q':=trivial; first | refine hE _ _ xa5 ?_ | refine hE _ _ xa2 ?_))<;>(try simp (disch:=first | omega | decide +kernel) only [q',xg3,xl9,xm9,xd0,go_sem,Qa,Qb,Qc,Qd,Qe,↓reduceIte,reduceCtorEq,Qf,Qg,Qh])<;>clear q') | (with_reducible first | refine And.intro ?_ ?_ | omega) | exact xa6 | (refine xa1 ?_; omega) | (refine za9 ⟨?_,?_⟩) | (simp only [go_sem,Qc,Qb,zb1,zb2,forall_eq]; done)))
   exact yt4 7 rfl rfl xa7
end Abs.Y
