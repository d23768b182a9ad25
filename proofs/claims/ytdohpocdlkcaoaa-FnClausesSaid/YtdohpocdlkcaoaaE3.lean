/- What functions of this program compute, over plain data. No condition. -/
import Derived.Test.YtdohpocdlkcaoaaG1
import Derived.Test.YtdohpocdlkcaoaaL3
set_option linter.all false
namespace Abs.Y
open Go Go.Proofs Abs
open Nat renaming reduceEqDiff -> Qa, reduceLT -> Qb, reduceAdd -> Qc, reduceMul -> Qd, reduceSub -> Qe, reduceLeDiff -> Qf, reduceSubDiff -> Qg, reduceBEq -> Qh
open Bool renaming not_eq_true' -> Ba, not_eq_false' -> Bb, and_eq_true -> Bc, or_eq_true -> Bd, or_eq_false_iff -> Be
open Int renaming ofNat_lt -> Ia, ofNat_le -> Ib, not_lt -> Ic, not_le -> Ie
open Decidable renaming not_not -> Da
set_option maxRecDepth 100000

def cmpI (x y : Int) : Int:=if x < y then -1 else if y < x then 1 else 0
def orI (x y : Int) : Int:=if x ≠ 0 then x else y
theorem isNaN_ok (x : Int) : Ctr Try.prog 227 [.int .i64 x] false (.d (.bool false)) []:=by
 refine Ctr.of (n:=6) (rs:=[.tmp 2]) Try.func227 rfl rfl Try.ntmps227 rfl rfl (by kernel_rfl) Try.checked.mixed ?_
 simp (disch:=first | omega | decide +kernel) only [go_sem,Qa,Qb,Qc,Qd,Qe,↓reduceIte,reduceCtorEq,Qf,Qg,Qh]
 (repeat' (first | ((first | (refine gsel_split (fun q' => ?_) (fun q' => ?_)<;>(have h':=q')<;>(try simp only [za1,za2,Ba,Bb,za3,ne_eq,za4,za5,za6,Ia,Ib,Ic,Ie,Da,Bc,Bd,Be,za7,za8] at h')) | (have q':=trivial; first | refine hE _ _ ret_ne ?_ | refine hE _ _ exit_ne ?_))<;>(try simp (disch:=first | omega | decide +kernel) only [q',go_sem,Qa,Qb,Qc,Qd,Qe,↓reduceIte,reduceCtorEq,Qf,Qg,Qh])<;>clear q') | refine hN _ ?_ ?_ Wk.kk | with_reducible refine And.intro ?_ ?_ | with_reducible omega | exact ok_ints | exact cells_ints | exact no_mem | with_reducible exact plain_ints | (refine le_maxLen ?_; omega) | (refine za9 ⟨?_,?_⟩) | (simp only [go_sem,Qc,Qb,zb1,zb2,forall_eq]; done)))
 all_goals (first | (simp; done))
theorem compare_ok (x y : Int) : Ctr Try.prog 186 [.int .i64 x,.int .i64 y] false (.d (.int .i64 (cmpI x y))) []:=by
 have c1:=fun x => isNaN_ok x
 unfold cmpI
 refine Ctr.of (n:=20) (rs:=[.tmp 4]) Try.func186 rfl rfl Try.ntmps186 rfl rfl (by kernel_rfl) Try.checked.mixed ?_
 simp (disch:=first | omega | decide +kernel) only [go_sem,Qa,Qb,Qc,Qd,Qe,↓reduceIte,reduceCtorEq,Qf,Qg,Qh]
 (repeat' (first | ((first | (refine gsel_split (fun q' => ?_) (fun q' => ?_)<;>(have h':=q')<;>(try simp only [za1,za2,Ba,Bb,za3,ne_eq,za4,za5,za6,Ia,Ib,Ic,Ie,Da,Bc,Bd,Be,za7,za8] at h')) | (have q':=trivial; first | refine callX_new (c1 _) rfl (by decide) ?_ | refine callY_new (c1 _) rfl ?_ | refine hE _ _ ret_ne ?_ | refine hE _ _ exit_ne ?_))<;>(try simp (disch:=first | omega | decide +kernel) only [q',go_sem,Qa,Qb,Qc,Qd,Qe,↓reduceIte,reduceCtorEq,Qf,Qg,Qh])<;>clear q') | refine hN _ ?_ ?_ Wk.kk | with_reducible refine And.intro ?_ ?_ | with_reducible omega | exact ok_ints | exact cells_ints | exact no_mem | with_reducible exact plain_ints | (refine le_maxLen ?_; omega) | (refine za9 ⟨?_,?_⟩) | (simp only [go_sem,Qc,Qb,zb1,zb2,forall_eq]; done)))
 all_goals (first | (simp_all [D.plain]; done) | (split<;>first | omega | (split<;>first | omega | rfl) | rfl))
theorem orL_ok (xs : List Int) (hl : xs.length<=4294967296) : Ctr Try.prog 185 [.ints xs] false (.d (.int .i64 ((xs.find? (fun x => decide (x ≠ 0))).getD 0))) []:=by
 refine Ctr.of (n:=18) (rs:=[.tmp 2]) Try.func185 rfl rfl Try.ntmps185 rfl rfl (by kernel_rfl) Try.checked.mixed ?_
 simp (disch:=first | omega | decide +kernel) only [D.ints,go_sem,Qa,Qb,Qc,Qd,Qe,↓reduceIte,reduceCtorEq,Qf,Qg,Qh]
 refine Ok.loopC [16,15,14,13,12,11,10,9,8,5,4,2,1,0] (fun i => [(8,.d (.int .i64 (i : Nat)))]) xs.length (fun i => (xs.drop i).find? (fun x => decide (x ≠ 0))=xs.find? (fun x => decide (x ≠ 0))) rfl (Wk.kk) ?_
 intro R i hN hE hi hI
 by_cases hlt : i < xs.length
 . rw [drop_cons 0 xs i hlt,List.find?_cons] at hI
   simp (disch:=first | omega | decide +kernel) only [D.ints,go_sem,Qa,Qb,Qc,Qd,Qe,↓reduceIte,reduceCtorEq,Qf,Qg,Qh]
   (repeat' (first | ((first | (refine gsel_split (fun q' => ?_) (fun q' => ?_)<;>(have h':=q')<;>(try simp only [za1,za2,Ba,Bb,za3,ne_eq,za4,za5,za6,Ia,Ib,Ic,Ie,Da,Bc,Bd,Be,za7,za8] at h')) | (have q':=trivial; first | refine hE _ _ ret_ne ?_ | refine hE _ _ exit_ne ?_))<;>(try simp (disch:=first | omega | decide +kernel) only [q',go_sem,Qa,Qb,Qc,Qd,Qe,↓reduceIte,reduceCtorEq,Qf,Qg,Qh])<;>clear q') | refine hN _ ?_ ?_ Wk.kk | with_reducible refine And.intro ?_ ?_ | with_reducible omega | exact ok_ints | exact cells_ints | exact no_mem | with_reducible exact plain_ints | (refine le_maxLen ?_; omega) | (refine za9 ⟨?_,?_⟩) | (simp only [go_sem,Qc,Qb,zb1,zb2,forall_eq]; done)))
   . rw [decide_eq_true h'] at hI
     rw [← hI]; rfl
   . rw [decide_eq_false (fun h => h h')] at hI
     exact hI
 . rw [List.drop_eq_nil_of_le (by omega)] at hI
   simp (disch:=first | omega | decide +kernel) only [D.ints,go_sem,Qa,Qb,Qc,Qd,Qe,↓reduceIte,reduceCtorEq,Qf,Qg,Qh]
   (repeat' (first | ((first | (refine gsel_split (fun q' => ?_) (fun q' => ?_)<;>(have h':=q')<;>(try simp only [za1,za2,Ba,Bb,za3,ne_eq,za4,za5,za6,Ia,Ib,Ic,Ie,Da,Bc,Bd,Be,za7,za8] at h')) | (have q':=trivial; first | refine hE _ _ ret_ne ?_ | refine hE _ _ exit_ne ?_))<;>(try simp (disch:=first | omega | decide +kernel) only [q',go_sem,Qa,Qb,Qc,Qd,Qe,↓reduceIte,reduceCtorEq,Qf,Qg,Qh])<;>clear q') | refine hN _ ?_ ?_ Wk.kk | with_reducible refine And.intro ?_ ?_ | with_reducible omega | exact ok_ints | exact cells_ints | exact no_mem | with_reducible exact plain_ints | (refine le_maxLen ?_; omega) | (refine za9 ⟨?_,?_⟩) | (simp only [go_sem,Qc,Qb,zb1,zb2,forall_eq]; done)))
   rw [← hI]; rfl
theorem or_ok (x y : Int) : Ctr Try.prog 185 [.slice [.int .i64 x,.int .i64 y]] false (.d (.int .i64 (orI x y))) []:=by
 have h:=orL_ok [x,y] (by simp)
 have e : ([x,y].find? (fun x => decide (x ≠ 0))).getD 0=orI x y:=by
  unfold orI
  by_cases h1 : x=0<;>by_cases h2 : y=0<;>simp [h1,h2]
 rw [e] at h
 exact h
end Abs.Y

namespace Abs.Y
open Go Go.Proofs Abs
open Nat renaming reduceEqDiff -> Qa, reduceLT -> Qb, reduceAdd -> Qc, reduceMul -> Qd, reduceSub -> Qe, reduceLeDiff -> Qf, reduceSubDiff -> Qg, reduceBEq -> Qh
open Bool renaming not_eq_true' -> Ba, not_eq_false' -> Bb, and_eq_true -> Bc, or_eq_true -> Bd, or_eq_false_iff -> Be
open Int renaming ofNat_lt -> Ia, ofNat_le -> Ib, not_lt -> Ic, not_le -> Ie
open Decidable renaming not_not -> Da
set_option maxRecDepth 100000

def cmpLI (a b : Int) : Int:=orI (cmpI (absI a) (absI b)) (cmpI b a)
def lexI : List Int->List Int->Int
 | [],[] => 0
 | [],_ :: _ => -1
 | _ :: _,[] => 1
 | x :: r,y :: s => if cmpLI x y ≠ 0 then cmpLI x y else lexI r s
def cmpCI (a b : List Int) : Int:=orI (cmpI a.length b.length) (lexI a b)
theorem compareLiterals_ok (a b : Int) : Ctr Try.prog 188 [.int .i64 a,.int .i64 b] false (.d (.int .i64 (cmpLI a b))) []:=by
 have c1:=abs_ok a
 have c2:=abs_ok b
 have c3:=compare_ok (absI a) (absI b)
 have c4:=compare_ok b a
 have c5:=or_ok (cmpI (absI a) (absI b)) (cmpI b a)
 refine Ctr.of (n:=15) (rs:=[.tmp 4]) Try.func188 rfl rfl Try.ntmps188 rfl rfl (by kernel_rfl) Try.checked.mixed ?_
 simp (disch:=first | omega | decide +kernel) only [go_sem,Qa,Qb,Qc,Qd,Qe,↓reduceIte,reduceCtorEq,Qf,Qg,Qh]
 (repeat' (first | ((first | (refine gsel_split (fun q' => ?_) (fun q' => ?_)<;>(have h':=q')<;>(try simp only [za1,za2,Ba,Bb,za3,ne_eq,za4,za5,za6,Ia,Ib,Ic,Ie,Da,Bc,Bd,Be,za7,za8] at h')) | (have q':=trivial; first | refine callX_new (c1) rfl (by decide) ?_ | refine callY_new (c1) rfl ?_ | refine callX_new (c2) rfl (by decide) ?_ | refine callY_new (c2) rfl ?_ | refine callX_new (c3) rfl (by decide) ?_ | refine callY_new (c3) rfl ?_ | refine callX_new (c4) rfl (by decide) ?_ | refine callY_new (c4) rfl ?_ | refine callX_new (c5) rfl (by decide) ?_ | refine callY_new (c5) rfl ?_ | refine hE _ _ ret_ne ?_ | refine hE _ _ exit_ne ?_))<;>(try simp (disch:=first | omega | decide +kernel) only [q',go_sem,Qa,Qb,Qc,Qd,Qe,↓reduceIte,reduceCtorEq,Qf,Qg,Qh])<;>clear q') | refine hN _ ?_ ?_ Wk.kk | with_reducible refine And.intro ?_ ?_ | with_reducible omega | exact ok_ints | exact cells_ints | exact no_mem | with_reducible exact plain_ints | (refine le_maxLen ?_; omega) | (refine za9 ⟨?_,?_⟩) | (simp only [go_sem,Qc,Qb,zb1,zb2,forall_eq]; done)))
 rfl
theorem compareFunc_ok (a b : List Int) (ha : a.length<=4294967296) (hb : b.length<=4294967296) : Ctr Try.prog 187 [.ints a,.ints b,.fn (.func 188) [] []] false (.d (.int .i64 (lexI a b))) []:=by
 refine Ctr.of (n:=39) (rs:=[.tmp 6]) Try.func187 rfl rfl Try.ntmps187 rfl rfl (by kernel_rfl) Try.checked.mixed ?_
 simp (disch:=first | omega | decide +kernel) only [D.ints,go_sem,Qa,Qb,Qc,Qd,Qe,↓reduceIte,reduceCtorEq,Qf,Qg,Qh]
 refine Ok.loopC [33,32,31,30,29,28,27,26,25,24,23,22,21,20,19,18,17,16,15,14,13,10,9,8,7,6,5,4,3] (fun i => [(13,.d (.int .i64 (i : Nat)))]) a.length (fun i => i<=b.length∧lexI (a.drop i) (b.drop i)=lexI a b) ⟨by omega,rfl⟩ (Wk.kk) ?_
 rintro R i hN hE hi ⟨hib,hI⟩
 by_cases hlt : i < a.length
 . have c1:=compareLiterals_ok (a.getD i 0) (b.getD i 0)
   simp (disch:=first | omega | decide +kernel) only [D.ints,go_sem,Qa,Qb,Qc,Qd,Qe,↓reduceIte,reduceCtorEq,Qf,Qg,Qh]
   (repeat' (first | ((first | (refine gsel_split (fun q' => ?_) (fun q' => ?_)<;>(have h':=q')<;>(try simp only [za1,za2,Ba,Bb,za3,ne_eq,za4,za5,za6,Ia,Ib,Ic,Ie,Da,Bc,Bd,Be,za7,za8] at h')) | (have q':=trivial; first | refine callX_new (c1) rfl (by decide) ?_ | refine callY_new (c1) rfl ?_ | refine hE _ _ ret_ne ?_ | refine hE _ _ exit_ne ?_))<;>(try simp (disch:=first | omega | decide +kernel) only [q',D.ints,go_sem,Qa,Qb,Qc,Qd,Qe,↓reduceIte,reduceCtorEq,Qf,Qg,Qh])<;>clear q') | refine hN _ ?_ ?_ Wk.kk | with_reducible refine And.intro ?_ ?_ | with_reducible omega | exact ok_ints | exact cells_ints | exact no_mem | with_reducible exact plain_ints | (refine le_maxLen ?_; omega) | (refine za9 ⟨?_,?_⟩) | (simp only [go_sem,Qc,Qb,zb1,zb2,forall_eq]; done)))
   . rw [drop_cons 0 a i hlt,show b.drop i=[] from List.drop_eq_nil_of_le (by omega)] at hI
     rw [← hI]; rfl
   . rw [drop_cons 0 a i hlt,drop_cons 0 b i (by omega),lexI,if_pos h'] at hI
     rw [hI]
   . rw [drop_cons 0 a i hlt,drop_cons 0 b i (by omega),lexI,if_neg (by simpa using h')] at hI
     exact hI
 . simp (disch:=first | omega | decide +kernel) only [D.ints,go_sem,Qa,Qb,Qc,Qd,Qe,↓reduceIte,reduceCtorEq,Qf,Qg,Qh]
   (repeat' (first | ((first | (refine gsel_split (fun q' => ?_) (fun q' => ?_)<;>(have h':=q')<;>(try simp only [za1,za2,Ba,Bb,za3,ne_eq,za4,za5,za6,Ia,Ib,Ic,Ie,Da,Bc,Bd,Be,za7,za8] at h')) | (have q':=trivial; first | refine hE _ _ ret_ne ?_ | refine hE _ _ exit_ne ?_))<;>(try simp (disch:=first | omega | decide +kernel) only [q',go_sem,Qa,Qb,Qc,Qd,Qe,↓reduceIte,reduceCtorEq,Qf,Qg,Qh])<;>clear q') | refine hN _ ?_ ?_ Wk.kk | with_reducible refine And.intro ?_ ?_ | with_reducible omega | exact ok_ints | exact cells_ints | exact no_mem | with_reducible exact plain_ints | (refine le_maxLen ?_; omega) | (refine za9 ⟨?_,?_⟩) | (simp only [go_sem,Qc,Qb,zb1,zb2,forall_eq]; done)))
   . rw [List.drop_eq_nil_of_le (by omega),drop_cons 0 b i (by omega)] at hI
     rw [← hI]; rfl
   . rw [List.drop_eq_nil_of_le (by omega),List.drop_eq_nil_of_le (by omega)] at hI
     rw [← hI]; rfl
theorem compareClauses_ok (a b : List Int) (ha : a.length<=4294967296) (hb : b.length<=4294967296) : Ctr Try.prog 104 [.ints a,.ints b] false (.d (.int .i64 (cmpCI a b))) []:=by
 have c1:=compare_ok a.length b.length
 have c2:=compareFunc_ok a b ha hb
 have c3:=or_ok (cmpI a.length b.length) (lexI a b)
 refine Ctr.of (n:=15) (rs:=[.tmp 4]) Try.func104 rfl rfl Try.ntmps104 rfl rfl (by kernel_rfl) Try.checked.mixed ?_
 simp (disch:=first | omega | decide +kernel) only [D.ints,go_sem,Qa,Qb,Qc,Qd,Qe,↓reduceIte,reduceCtorEq,Qf,Qg,Qh]
 (repeat' (first | ((first | (refine gsel_split (fun q' => ?_) (fun q' => ?_)<;>(have h':=q')<;>(try simp only [za1,za2,Ba,Bb,za3,ne_eq,za4,za5,za6,Ia,Ib,Ic,Ie,Da,Bc,Bd,Be,za7,za8] at h')) | (have q':=trivial; first | refine callX_new (c1) rfl (by decide) ?_ | refine callY_new (c1) rfl ?_ | refine callX_new (c2) rfl (by decide) ?_ | refine callY_new (c2) rfl ?_ | refine callX_new (c3) rfl (by decide) ?_ | refine callY_new (c3) rfl ?_ | refine hE _ _ ret_ne ?_ | refine hE _ _ exit_ne ?_))<;>(try simp (disch:=first | omega | decide +kernel) only [q',D.ints,go_sem,Qa,Qb,Qc,Qd,Qe,↓reduceIte,reduceCtorEq,Qf,Qg,Qh])<;>clear q') | refine hN _ ?_ ?_ Wk.kk | with_reducible refine And.intro ?_ ?_ | with_reducible omega | exact ok_ints | exact cells_ints | exact no_mem | with_reducible exact plain_ints | (refine le_maxLen ?_; omega) | (refine za9 ⟨?_,?_⟩) | (simp only [go_sem,Qc,Qb,zb1,zb2,forall_eq]; done)))
 all_goals (first | rfl)
theorem l2Key_ok (l : Int) (h : -4611686018427387900<=l∧l<=4611686018427387900) : Ctr Try.prog 189 [.int .i64 l] false (.d (.int .i64 (if l < 0 then -2 * l + 1 else 2 * l))) []:=by
 refine Ctr.of (n:=10) (rs:=[.tmp 2]) Try.func189 rfl rfl Try.ntmps189 rfl rfl (by kernel_rfl) Try.checked.mixed ?_
 simp (disch:=first | omega | decide +kernel) only [go_sem,Qa,Qb,Qc,Qd,Qe,↓reduceIte,reduceCtorEq,Qf,Qg,Qh]
 (repeat' (first | ((first | (refine gsel_split (fun q' => ?_) (fun q' => ?_)<;>(have h':=q')<;>(try simp only [za1,za2,Ba,Bb,za3,ne_eq,za4,za5,za6,Ia,Ib,Ic,Ie,Da,Bc,Bd,Be,za7,za8] at h')) | (have q':=trivial; first | refine hE _ _ ret_ne ?_ | refine hE _ _ exit_ne ?_))<;>(try simp (disch:=first | omega | decide +kernel) only [q',go_sem,Qa,Qb,Qc,Qd,Qe,↓reduceIte,reduceCtorEq,Qf,Qg,Qh])<;>clear q') | refine hN _ ?_ ?_ Wk.kk | with_reducible refine And.intro ?_ ?_ | with_reducible omega | exact ok_ints | exact cells_ints | exact no_mem | with_reducible exact plain_ints | (refine le_maxLen ?_; omega) | (refine za9 ⟨?_,?_⟩) | (simp only [go_sem,Qc,Qb,zb1,zb2,forall_eq]; done)))
 . rw [if_pos h']
 . rw [if_neg (by omega)]
def Sm (c : List Int) : Prop:=∀ x ∈ c,-4611686018427387900<=x∧x<=4611686018427387900
theorem cmpLI_lt {a b : Int} (ha : -4611686018427387900<=a∧a<=4611686018427387900) (hb : -4611686018427387900<=b∧b<=4611686018427387900) :
 (cmpLI a b < 0↔(if a < 0 then -2 * a + 1 else 2 * a) < (if b < 0 then -2 * b + 1 else 2 * b))∧(cmpLI a b=0↔a=b):=by
 unfold cmpLI orI cmpI
 rw [absI_eq (by omega),absI_eq (by omega)]
 repeat' split
 all_goals omega
def befI (a b : List Int) : Bool:=decide (cmpCI a b < 0)
theorem lexI_at : ∀ {a b : List Int} {i : Nat},a.length=b.length->i < a.length->(∀ j,j < i->a.getD j 0=b.getD j 0)->Sm a->Sm b->a.getD i 0 ≠ b.getD i 0->lexI a b=cmpLI (a.getD i 0) (b.getD i 0)
 | x :: r, y :: s, 0, hl, hi, hj, sa, sb, hne => by
   rw [lexI,if_pos]
   . rfl
   . intro h0
     exact hne ((cmpLI_lt (sa x (by simp)) (sb y (by simp))).2.1 h0)
 | x :: r, y :: s, i + 1, hl, hi, hj, sa, sb, hne => by
   have h0:=hj 0 (by omega)
   simp only [List.getD_cons_zero] at h0
   rw [lexI,if_neg (by simpa using (cmpLI_lt (sa x (by simp)) (sb y (by simp))).2.2 h0)]
   exact lexI_at (by simpa using hl) (by simpa using hi) (fun j hj' => by simpa using hj (j + 1) (by omega)) (fun z hz => sa z (by simp [hz])) (fun z hz => sb z (by simp [hz])) hne
 | [],_,_,_,hi,_,_,_,_ => by simp at hi
 | _ :: _,[],_,hl,_,_,_,_,_ => by simp at hl
theorem lexI_self : ∀ {a : List Int},Sm a->lexI a a=0
 | [],_ => rfl
 | x :: r, sa => by
   rw [lexI,if_neg (by simpa using (cmpLI_lt (sa x (by simp)) (sa x (by simp))).2.2 rfl)]
   exact lexI_self fun z hz => sa z (by simp [hz])
theorem cmpI_lt (x y : Int) : (cmpI x y < 0↔x < y)∧(cmpI x y=0↔x=y):=by
 unfold cmpI
 repeat' split
 all_goals omega
theorem befI_len {a b : List Int} (h : ¬ (a.length : Int)=b.length) : befI a b=decide ((a.length : Int) < b.length):=by
 have hc:=cmpI_lt a.length b.length
 unfold befI cmpCI orI
 rw [if_pos (fun h0 => h (hc.2.1 h0))]
 exact decide_eq_decide.2 hc.1
theorem befI_eq {a b : List Int} (h : (a.length : Int)=b.length) : befI a b=decide (lexI a b < 0):=by
 have hc:=cmpI_lt a.length b.length
 unfold befI cmpCI orI
 rw [if_neg (by simpa using hc.2.2 h)]
theorem l2Before_ok (a b : List Int) (ha : a.length<=4294967296) (hb : b.length<=4294967296) (sa : Sm a) (sb : Sm b) : Ctr Try.prog 105 [.ints a,.ints b] false (.d (.bool (befI a b))) []:=by
 refine Ctr.of (n:=42) (rs:=[.tmp 4]) Try.func105 rfl rfl Try.ntmps105 rfl rfl (by kernel_rfl) Try.checked.mixed ?_
 simp (disch:=first | omega | decide +kernel) only [D.ints,go_sem,Qa,Qb,Qc,Qd,Qe,↓reduceIte,reduceCtorEq,Qf,Qg,Qh]
 (repeat' (first | ((first | (refine gsel_split (fun q' => ?_) (fun q' => ?_)<;>(have h':=q')<;>(try simp only [za1,za2,Ba,Bb,za3,ne_eq,za4,za5,za6,Ia,Ib,Ic,Ie,Da,Bc,Bd,Be,za7,za8] at h')) | (have q':=trivial; first | refine hE _ _ ret_ne ?_ | refine hE _ _ exit_ne ?_))<;>(try simp (disch:=first | omega | decide +kernel) only [q',go_sem,Qa,Qb,Qc,Qd,Qe,↓reduceIte,reduceCtorEq,Qf,Qg,Qh])<;>clear q') | refine hN _ ?_ ?_ Wk.kk | with_reducible refine And.intro ?_ ?_ | with_reducible omega | exact ok_ints | exact cells_ints | exact no_mem | with_reducible exact plain_ints | (refine le_maxLen ?_; omega) | (refine za9 ⟨?_,?_⟩) | (simp only [go_sem,Qc,Qb,zb1,zb2,forall_eq]; done)))
 . rw [befI_len h']
 . refine Ok.loopC [41,40,39,38,37,36,35,34,33,32,31,30,29,28,27,26,25,24,23,22,21,20,19,18,17,16,15,14,13,12,11,10,9,8,7,6,5,4,3,2] (fun i => [(5,.d (.int .i64 (i : Nat)))]) a.length (fun i => ∀ j,j < i->a.getD j 0=b.getD j 0) (by simp) (Wk.kk) ?_
   intro R i hN hE hi hI
   by_cases hlt : i < a.length
   . have ka:=sa _ (getD_mem (z:=(0 : Int)) hlt)
     have kb:=sb _ (getD_mem (z:=(0 : Int)) (show i < b.length by omega))
     have c1:=l2Key_ok (a.getD i 0) ka
     have c2:=l2Key_ok (b.getD i 0) kb
     simp (disch:=first | omega | decide +kernel) only [D.ints,go_sem,Qa,Qb,Qc,Qd,Qe,↓reduceIte,reduceCtorEq,Qf,Qg,Qh]
     (repeat' (first | ((first | (refine gsel_split (fun q' => ?_) (fun q' => ?_)<;>(have h':=q')<;>(try simp only [za1,za2,Ba,Bb,za3,ne_eq,za4,za5,za6,Ia,Ib,Ic,Ie,Da,Bc,Bd,Be,za7,za8] at h')) | (have q':=trivial; first | refine callX_new (c1) rfl (by decide) ?_ | refine callY_new (c1) rfl ?_ | refine callX_new (c2) rfl (by decide) ?_ | refine callY_new (c2) rfl ?_ | refine hE _ _ ret_ne ?_ | refine hE _ _ exit_ne ?_))<;>(try simp (disch:=first | omega | decide +kernel) only [q',D.ints,go_sem,Qa,Qb,Qc,Qd,Qe,↓reduceIte,reduceCtorEq,Qf,Qg,Qh])<;>clear q') | refine hN _ ?_ ?_ Wk.kk | with_reducible refine And.intro ?_ ?_ | with_reducible omega | exact ok_ints | exact cells_ints | exact no_mem | with_reducible exact plain_ints | (refine le_maxLen ?_; omega) | (refine za9 ⟨?_,?_⟩) | (simp only [go_sem,Qc,Qb,zb1,zb2,forall_eq]; done)))
     . rename_i hne
       rw [befI_eq (by omega),lexI_at (by omega) hlt hI sa sb (by assumption)]
       rw [decide_eq_decide.2 (cmpLI_lt ka kb).1]
     . exact all_succ hI (by assumption)
   . simp (disch:=first | omega | decide +kernel) only [D.ints,go_sem,Qa,Qb,Qc,Qd,Qe,↓reduceIte,reduceCtorEq,Qf,Qg,Qh]
     (repeat' (first | ((first | (refine gsel_split (fun q' => ?_) (fun q' => ?_)<;>(have h':=q')<;>(try simp only [za1,za2,Ba,Bb,za3,ne_eq,za4,za5,za6,Ia,Ib,Ic,Ie,Da,Bc,Bd,Be,za7,za8] at h')) | (have q':=trivial; first | refine hE _ _ ret_ne ?_ | refine hE _ _ exit_ne ?_))<;>(try simp (disch:=first | omega | decide +kernel) only [q',go_sem,Qa,Qb,Qc,Qd,Qe,↓reduceIte,reduceCtorEq,Qf,Qg,Qh])<;>clear q') | refine hN _ ?_ ?_ Wk.kk | with_reducible refine And.intro ?_ ?_ | with_reducible omega | exact ok_ints | exact cells_ints | exact no_mem | with_reducible exact plain_ints | (refine le_maxLen ?_; omega) | (refine za9 ⟨?_,?_⟩) | (simp only [go_sem,Qc,Qb,zb1,zb2,forall_eq]; done)))
     have e : a=b:=ext_getDz 0 (by omega) fun j hj => hI j (by omega)
     rw [befI_eq (by omega),← e,lexI_self sa]
     rfl
end Abs.Y

namespace Abs.Y
open Go Go.Proofs Abs
open Nat renaming reduceEqDiff -> Qa, reduceLT -> Qb, reduceAdd -> Qc, reduceMul -> Qd, reduceSub -> Qe, reduceLeDiff -> Qf, reduceSubDiff -> Qg, reduceBEq -> Qh
open Bool renaming not_eq_true' -> Ba, not_eq_false' -> Bb, and_eq_true -> Bc, or_eq_true -> Bd, or_eq_false_iff -> Be
open Int renaming ofNat_lt -> Ia, ofNat_le -> Ib, not_lt -> Ic, not_le -> Ie
open Decidable renaming not_not -> Da
set_option maxRecDepth 100000

structure At (list : List (List Int)) (c : List Int) (k : Nat) : Prop where
 le : k<=list.length
 lo : ∀ j,j < k->befI (list.getD j []) c=true
 hi : ∀ j,k<=j->j < list.length->befI (list.getD j []) c=false
end Abs.Y

namespace Abs.Y
open Go Go.Proofs Abs
open Nat renaming reduceEqDiff -> Qa, reduceLT -> Qb, reduceAdd -> Qc, reduceMul -> Qd, reduceSub -> Qe, reduceLeDiff -> Qf, reduceSubDiff -> Qg, reduceBEq -> Qh
open Bool renaming not_eq_true' -> Ba, not_eq_false' -> Bb, and_eq_true -> Bc, or_eq_true -> Bd, or_eq_false_iff -> Be
open Int renaming ofNat_lt -> Ia, ofNat_le -> Ib, not_lt -> Ic, not_le -> Ie
open Decidable renaming not_not -> Da
set_option maxRecDepth 100000

def keyI (x : Int) : Int:=if x < 0 then -2 * x + 1 else 2 * x
theorem keyI_inj {x y : Int} (h : keyI x=keyI y) : x=y:=by
 unfold keyI at h
 split at h<;>split at h<;>omega
def lexB : List Int->List Int->Bool
 | x :: r,y :: s => decide (keyI x < keyI y) || (decide (x=y) && lexB r s)
 | _,_ => false
theorem lexI_B : ∀ {a b : List Int},a.length=b.length->Sm a->Sm b->((lexI a b < 0)↔lexB a b=true)
 | [],[],_,_,_ => by simp [lexI,lexB]
 | x :: r, y :: s, hl, sa, sb => by
   have h:=cmpLI_lt (sa x (by simp)) (sb y (by simp))
   have ih:=lexI_B (a:=r) (b:=s) (by simpa using hl) (fun z hz => sa z (by simp [hz])) (fun z hz => sb z (by simp [hz]))
   rw [lexI,lexB,Bd,Bc,decide_eq_true_eq,decide_eq_true_eq]
   by_cases he : x=y
   . subst he
     rw [if_neg (by simpa using h.2.2 rfl),ih]
     constructor
     . exact fun h => .inr ⟨rfl,h⟩
     . rintro (h | h)
       . omega
       . exact h.2
   . rw [if_pos fun h0 => he (h.2.1 h0)]
     have h1 : cmpLI x y < 0↔keyI x < keyI y:=h.1
     rw [h1]
     constructor
     . exact .inl
     . rintro (h | h)
       . exact h
       . exact absurd h.1 he
 | [],_ :: _,hl,_,_ => by simp at hl
 | _ :: _,[],hl,_,_ => by simp at hl
theorem lexB_total : ∀ {a b : List Int},a.length=b.length->lexB a b=true∨lexB b a=true∨a=b
 | [],[],_ => .inr (.inr rfl)
 | x :: r, y :: s, hl => by
   rw [lexB,lexB]
   simp only [Bd,Bc,decide_eq_true_eq]
   rcases Int.lt_trichotomy (keyI x) (keyI y) with h | h | h
   . exact .inl (.inl h)
   . obtain rfl:=keyI_inj h
     rcases lexB_total (a:=r) (b:=s) (by simpa using hl) with h | h | h
     . exact .inl (.inr ⟨rfl,h⟩)
     . exact .inr (.inl (.inr ⟨rfl,h⟩))
     . exact .inr (.inr (by rw [h]))
   . exact .inr (.inl (.inl h))
 | [],_ :: _,hl => by simp at hl
 | _ :: _,[],hl => by simp at hl
theorem befI_iff {a b : List Int} (sa : Sm a) (sb : Sm b) : befI a b=true↔a.length < b.length∨(a.length=b.length∧lexB a b=true):=by
 by_cases h : (a.length : Int)=b.length
 . rw [befI_eq h,decide_eq_true_eq,lexI_B (by omega) sa sb]
   constructor
   . exact fun h' => .inr ⟨by omega,h'⟩
   . rintro (h' | h')
     . omega
     . exact h'.2
 . rw [befI_len h,decide_eq_true_eq]
   constructor
   . exact fun h' => .inl (by omega)
   . rintro (h' | h')
     . omega
     . omega
theorem bef_total {a b : List Int} (sa : Sm a) (sb : Sm b) : befI a b=true∨befI b a=true∨a=b:=by
 rw [befI_iff sa sb,befI_iff sb sa]
 rcases Nat.lt_trichotomy a.length b.length with h | h | h
 . exact .inl (.inl h)
 . rcases lexB_total h with h' | h' | h'
   . exact .inl (.inr ⟨h,h'⟩)
   . exact .inr (.inl (.inr ⟨h.symm,h'⟩))
   . exact .inr (.inr h')
 . exact .inr (.inl (.inl h))
def Srt (l : List (List Int)) : Prop:=l.Pairwise (fun a b => befI a b=true)∧∀ x ∈ l,Sm x
end Abs.Y
