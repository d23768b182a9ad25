/- What functions of this program compute, over plain data. No condition. -/
import Derived.Test.YtdohpocdlkcaoaaE0
set_option linter.all false
namespace Abs.Y
open Go Go.Proofs Abs
open Nat renaming reduceEqDiff -> Qa, reduceLT -> Qb, reduceAdd -> Qc, reduceMul -> Qd, reduceSub -> Qe, reduceLeDiff -> Qf, reduceSubDiff -> Qg, reduceBEq -> Qh
open Bool renaming not_eq_true' -> Ba, not_eq_false' -> Bb, and_eq_true -> Bc, or_eq_true -> Bd, or_eq_false_iff -> Be
open Int renaming ofNat_lt -> Ia, ofNat_le -> Ib, not_lt -> Ic, not_le -> Ie
open Decidable renaming not_not -> Da
set_option maxRecDepth 100000

def cmpLI (a b : Int) : Int:=orI (cmpI (absI a) (absI b)) (cmpI b a)
def lexI : List Int->List Int->Int
 | [],[] => 0
 | [],_ :: _ => -1
 | _ :: _,[] => 1
 | x :: r,y :: s => if cmpLI x y ≠ 0 then cmpLI x y else lexI r s
def cmpCI (a b : List Int) : Int:=orI (cmpI a.length b.length) (lexI a b)
theorem compareLiterals_ok (a b : Int) : Ctr Try.prog 188 [.int .i64 a,.int .i64 b] false (.d (.int .i64 (cmpLI a b))) []:=by
 have c1:=abs_ok a
 have c2:=abs_ok b
 have c3:=compare_ok (absI a) (absI b)
 have c4:=compare_ok b a
 have c5:=or_ok (cmpI (absI a) (absI b)) (cmpI b a)
 refine Ctr.of (n:=15) (rs:=[.tmp 4]) Try.func188 rfl rfl Try.ntmps188 rfl rfl (by kernel_rfl) Try.checked.mixed ?_
 simp (disch:=first | omega | decide +kernel) only [go_sem,Qa,Qb,Qc,Qd,Qe,↓reduceIte,reduceCtorEq,Qf,Qg,Qh]
 (repeat' (first | ((first | (refine gsel_split (fun q' => ?_) (fun q' => ?_)<;>(have h':=q')<;>(try simp only [za1,za2,Ba,Bb,za3,ne_eq,za4,za5,za6,Ia,Ib,Ic,Ie,Da,Bc,Bd,Be,za7,za8] at h')) | (have q':=trivial; first | refine callX_new (c1) rfl (by decide) ?_ | refine callY_new (c1) rfl ?_ | refine callX_new (c2) rfl (by decide) ?_ | refine callY_new (c2) rfl ?_ | refine callX_new (c3) rfl (by decide) ?_ | refine callY_new (c3) rfl ?_ | refine callX_new (c4) rfl (by decide) ?_ | refine callY_new (c4) rfl ?_ | refine callX_new (c5) rfl (by decide) ?_ | refine callY_new (c5) rfl ?_ | refine hE _ _ ret_ne ?_ | refine hE _ _ exit_ne ?_))<;>(try simp (disch:=first | omega | decide +kernel) only [q',go_sem,Qa,Qb,Qc,Qd,Qe,↓reduceIte,reduceCtorEq,Qf,Qg,Qh])<;>clear q') | refine hN _ ?_ ?_ Wk.kk | with_reducible refine And.intro ?_ ?_ | with_reducible omega | exact ok_ints | exact cells_ints | exact no_mem | with_reducible exact plain_ints | (refine le_maxLen ?_; omega) | (refine za9 ⟨?_,?_⟩) | (simp only [go_sem,Qc,Qb,zb1,zb2,forall_eq]; done)))
 rfl
theorem compareFunc_ok (a b : List Int) (ha : a.length<=4294967296) (hb : b.length<=4294967296) : Ctr Try.prog 187 [.ints a,.ints b,.fn (.func 188) [] []] false (.d (.int .i64 (lexI a b))) []:=by
 refine Ctr.of (n:=39) (rs:=[.tmp 6]) Try.func187 rfl rfl Try.ntmps187 rfl rfl (by kernel_rfl) Try.checked.mixed ?_
 simp (disch:=first | omega | decide +kernel) only [D.ints,go_sem,Qa,Qb,Qc,Qd,Qe,↓reduceIte,reduceCtorEq,Qf,Qg,Qh]
 refine Ok.loopC [33,32,31,30,29,28,27,26,25,24,23,22,21,20,19,18,17,16,15,14,13,10,9,8,7,6,5,4,3] (fun i => [(13,.d (.int .i64 (i : Nat)))]) a.length (fun i => i<=b.length∧lexI (a.drop i) (b.drop i)=lexI a b) ⟨by omega,rfl⟩ (Wk.kk) ?_
 rintro R i hN hE hi ⟨hib,hI⟩
 by_cases hlt : i < a.length
 . have c1:=compareLiterals_ok (a.getD i 0) (b.getD i 0)
   simp (disch:=first | omega | decide +kernel) only [D.ints,go_sem,Qa,Qb,Qc,Qd,Qe,↓reduceIte,reduceCtorEq,Qf,Qg,Qh]
   (repeat' (first | ((first | (refine gsel_split (fun q' => ?_) (fun q' => ?_)<;>(have h':=q')<;>(try simp only [za1,za2,Ba,Bb,za3,ne_eq,za4,za5,za6,Ia,Ib,Ic,Ie,Da,Bc,Bd,Be,za7,za8] at h')) | (have q':=trivial; first | refine callX_new (c1) rfl (by decide) ?_ | refine callY_new (c1) rfl ?_ | refine hE _ _ ret_ne ?_ | refine hE _ _ exit_ne ?_))<;>(try simp (disch:=first | omega | decide +kernel) only [q',D.ints,go_sem,Qa,Qb,Qc,Qd,Qe,↓reduceIte,reduceCtorEq,Qf,Qg,Qh])<;>clear q') | refine hN _ ?_ ?_ Wk.kk | with_reducible refine And.intro ?_ ?_ | with_reducible omega | exact ok_ints | exact cells_ints | exact no_mem | with_reducible exact plain_ints | (refine le_maxLen ?_; omega) | (refine za9 ⟨?_,?_⟩) | (simp only [go_sem,Qc,Qb,zb1,zb2,forall_eq]; done)))
   . rw [drop_cons 0 a i hlt,show b.drop i=[] from List.drop_eq_nil_of_le (by omega)] at hI
     rw [← hI]; rfl
   . rw [drop_cons 0 a i hlt,drop_cons 0 b i (by omega),lexI,if_pos h'] at hI
     rw [hI]
   . rw [drop_cons 0 a i hlt,drop_cons 0 b i (by omega),lexI,if_neg (by simpa using h')] at hI
     exact hI
 . simp (disch:=first | omega | decide +kernel) only [D.ints,go_sem,Qa,Qb,Qc,Qd,Qe,↓reduceIte,reduceCtorEq,Qf,Qg,Qh]
   (repeat' (first | ((first | (refine gsel_split (fun q' => ?_) (fun q' => ?_)<;>(have h':=q')<;>(try simp only [za1,za2,Ba,Bb,za3,ne_eq,za4,za5,za6,Ia,Ib,Ic,Ie,Da,Bc,Bd,Be,za7,za8] at h')) | (have q':=trivial; first | refine hE _ _ ret_ne ?_ | refine hE _ _ exit_ne ?_))<;>(try simp (disch:=first | omega | decide +kernel) only [q',go_sem,Qa,Qb,Qc,Qd,Qe,↓reduceIte,reduceCtorEq,Qf,Qg,Qh])<;>clear q') | refine hN _ ?_ ?_ Wk.kk | with_reducible refine And.intro ?_ ?_ | with_reducible omega | exact ok_ints | exact cells_ints | exact no_mem | with_reducible exact plain_ints | (refine le_maxLen ?_; omega) | (refine za9 ⟨?_,?_⟩) | (simp only [go_sem,Qc,Qb,zb1,zb2,forall_eq]; done)))
   . rw [List.drop_eq_nil_of_le (by omega),drop_cons 0 b i (by omega)] at hI
     rw [← hI]; rfl
   . rw [List.drop_eq_nil_of_le (by omega),List.drop_eq_nil_of_le (by omega)] at hI
     rw [← hI]; rfl
theorem compareClauses_ok (a b : List Int) (ha : a.length<=4294967296) (hb : b.length<=4294967296) : Ctr Try.prog 104 [.ints a,.ints b] false (.d (.int .i64 (cmpCI a b))) []:=by
 have c1:=compare_ok a.length b.length
 have c2:=compareFunc_ok a b ha hb
 have c3:=or_ok (cmpI a.length b.length) (lexI a b)
 refine Ctr.of (n:=15) (rs:=[.tmp 4]) Try.func104 rfl rfl Try.ntmps104 rfl rfl (by kernel_rfl) Try.checked.mixed ?_
 simp (disch:=first | omega | decide +kernel) only [D.ints,go_sem,Qa,Qb,Qc,Qd,Qe,↓reduceIte,reduceCtorEq,Qf,Qg,Qh]
 (repeat' (first | ((first | (refine gsel_split (fun q' => ?_) (fun q' => ?_)<;>(have h':=q')<;>(try simp only [za1,za2,Ba,Bb,za3,ne_eq,za4,za5,za6,Ia,Ib,Ic,Ie,Da,Bc,Bd,Be,za7,za8] at h')) | (have q':=trivial; first | refine callX_new (c1) rfl (by decide) ?_ | refine callY_new (c1) rfl ?_ | refine callX_new (c2) rfl (by decide) ?_ | refine callY_new (c2) rfl ?_ | refine callX_new (c3) rfl (by decide) ?_ | refine callY_new (c3) rfl ?_ | refine hE _ _ ret_ne ?_ | refine hE _ _ exit_ne ?_))<;>(try simp (disch:=first | omega | decide +kernel) only [q',D.ints,go_sem,Qa,Qb,Qc,Qd,Qe,↓reduceIte,reduceCtorEq,Qf,Qg,Qh])<;>clear q') | refine hN _ ?_ ?_ Wk.kk | with_reducible refine And.intro ?_ ?_ | with_reducible omega | exact ok_ints | exact cells_ints | exact no_mem | with_reducible exact plain_ints | (refine le_maxLen ?_; omega) | (refine za9 ⟨?_,?_⟩) | (simp only [go_sem,Qc,Qb,zb1,zb2,forall_eq]; done)))
 all_goals (first | rfl)
theorem l2Key_ok (l : Int) (h : -4611686018427387900<=l∧l<=4611686018427387900) : Ctr Try.prog 189 [.int .i64 l] false (.d (.int .i64 (if l < 0 then -2 * l + 1 else 2 * l))) []:=by
 refine Ctr.of (n:=10) (rs:=[.tmp 2]) Try.func189 rfl rfl Try.ntmps189 rfl rfl (by kernel_rfl) Try.checked.mixed ?_
 simp (disch:=first | omega | decide +kernel) only [go_sem,Qa,Qb,Qc,Qd,Qe,↓reduceIte,reduceCtorEq,Qf,Qg,Qh]
 (repeat' (first | ((first | (refine gsel_split (fun q' => ?_) (fun q' => ?_)<;>(have h':=q')<;>(try simp only [za1,za2,Ba,Bb,za3,ne_eq,za4,za5,za6,Ia,Ib,Ic,Ie,Da,Bc,Bd,Be,za7,za8] at h')) | (have q':=trivial; first | refine hE _ _ ret_ne ?_ | refine hE _ _ exit_ne ?_))<;>(try simp (disch:=first | omega | decide +kernel) only [q',go_sem,Qa,Qb,Qc,Qd,Qe,↓reduceIte,reduceCtorEq,Qf,Qg,Qh])<;>clear q') | refine hN _ ?_ ?_ Wk.kk | with_reducible refine And.intro ?_ ?_ | with_reducible omega | exact ok_ints | exact cells_ints | exact no_mem | with_reducible exact plain_ints | (refine le_maxLen ?_; omega) | (refine za9 ⟨?_,?_⟩) | (simp only [go_sem,Qc,Qb,zb1,zb2,forall_eq]; done)))
 . rw [if_pos h']
 . rw [if_neg (by omega)]
def Sm (c : List Int) : Prop:=∀ x ∈ c,-4611686018427387900<=x∧x<=4611686018427387900
theorem cmpLI_lt {a b : Int} (ha : -4611686018427387900<=a∧a<=4611686018427387900) (hb : -4611686018427387900<=b∧b<=4611686018427387900) :
 (cmpLI a b < 0↔(if a < 0 then -2 * a + 1 else 2 * a) < (if b < 0 then -2 * b + 1 else 2 * b))∧(cmpLI a b=0↔a=b):=by
 unfold cmpLI orI cmpI
 rw [absI_eq (by omega),absI_eq (by omega)]
 repeat' split
 all_goals omega
def befI (a b : List Int) : Bool:=decide (cmpCI a b < 0)
theorem lexI_at : ∀ {a b : List Int} {i : Nat},a.length=b.length->i < a.length->(∀ j,j < i->a.getD j 0=b.getD j 0)->Sm a->Sm b->a.getD i 0 ≠ b.getD i 0->lexI a b=cmpLI (a.getD i 0) (b.getD i 0)
 | x :: r, y :: s, 0, hl, hi, hj, sa, sb, hne => by
   rw [lexI,if_pos]
   . rfl
   . intro h0
     exact hne ((cmpLI_lt (sa x (by simp)) (sb y (by simp))).2.1 h0)
 | x :: r, y :: s, i + 1, hl, hi, hj, sa, sb, hne => by
   have h0:=hj 0 (by omega)
   simp only [List.getD_cons_zero] at h0
   rw [lexI,if_neg (by simpa using (cmpLI_lt (sa x (by simp)) (sb y (by simp))).2.2 h0)]
   exact lexI_at (by simpa using hl) (by simpa using hi) (fun j hj' => by simpa using hj (j + 1) (by omega)) (fun z hz => sa z (by simp [hz])) (fun z hz => sb z (by simp [hz])) hne
 | [],_,_,_,hi,_,_,_,_ => by simp at hi
 | _ :: _,[],_,hl,_,_,_,_,_ => by simp at hl
theorem lexI_self : ∀ {a : List Int},Sm a->lexI a a=0
 | [],_ => rfl
 | x :: r, sa => by
   rw [lexI,if_neg (by simpa using (cmpLI_lt (sa x (by simp)) (sa x (by simp))).2.2 rfl)]
   exact lexI_self fun z hz => sa z (by simp [hz])
theorem cmpI_lt (x y : Int) : (cmpI x y < 0↔x < y)∧(cmpI x y=0↔x=y):=by
 unfold cmpI
 repeat' split
 all_goals omega
theorem befI_len {a b : List Int} (h : ¬ (a.length : Int)=b.length) : befI a b=decide ((a.length : Int) < b.length):=by
 have hc:=cmpI_lt a.length b.length
 unfold befI cmpCI orI
 rw [if_pos (fun h0 => h (hc.2.1 h0))]
 exact decide_eq_decide.2 hc.1
theorem befI_eq {a b : List Int} (h : (a.length : Int)=b.length) : befI a b=decide (lexI a b < 0):=by
 have hc:=cmpI_lt a.length b.length
 unfold befI cmpCI orI
 rw [if_neg (by simpa using hc.2.2 h)]
theorem l2Before_ok (a b : List Int) (ha : a.length<=4294967296) (hb : b.length<=4294967296) (sa : Sm a) (sb : Sm b) : Ctr Try.prog 105 [.ints a,.ints b] false (.d (.bool (befI a b))) []:=by
 refine Ctr.of (n:=42) (rs:=[.tmp 4]) Try.func105 rfl rfl Try.ntmps105 rfl rfl (by kernel_rfl) Try.checked.mixed ?_
 simp (disch:=first | omega | decide +kernel) only [D.ints,go_sem,Qa,Qb,Qc,Qd,Qe,↓reduceIte,reduceCtorEq,Qf,Qg,Qh]
 (repeat' (first | ((first | (refine gsel_split (fun q' => ?_) (fun q' => ?_)<;>(have h':=q')<;>(try simp only [za1,za2,Ba,Bb,za3,ne_eq,za4,za5,za6,Ia,Ib,Ic,Ie,Da,Bc,Bd,Be,za7,za8] at h')) | (have q':=trivial; first | refine hE _ _ ret_ne ?_ | refine hE _ _ exit_ne ?_))<;>(try simp (disch:=first | omega | decide +kernel) only [q',go_sem,Qa,Qb,Qc,Qd,Qe,↓reduceIte,reduceCtorEq,Qf,Qg,Qh])<;>clear q') | refine hN _ ?_ ?_ Wk.kk | with_reducible refine And.intro ?_ ?_ | with_reducible omega | exact ok_ints | exact cells_ints | exact no_mem | with_reducible exact plain_ints | (refine le_maxLen ?_; omega) | (refine za9 ⟨?_,?_⟩) | (simp only [go_sem,Qc,Qb,zb1,zb2,forall_eq]; done)))
 . rw [befI_len h']
 . refine Ok.loopC [41,40,39,38,37,36,35,34,33,32,31,30,29,28,27,26,25,24,23,22,21,20,19,18,17,16,15,14,13,12,11,10,9,8,7,6,5,4,3,2] (fun i => [(5,.d (.int .i64 (i : Nat)))]) a.length (fun i => ∀ j,j < i->a.getD j 0=b.getD j 0) (by simp) (Wk.kk) ?_
   intro R i hN hE hi hI
   by_cases hlt : i < a.length
   . have ka:=sa _ (getD_mem (z:=(0 : Int)) hlt)
     have kb:=sb _ (getD_mem (z:=(0 : Int)) (show i < b.length by omega))
     have c1:=l2Key_ok (a.getD i 0) ka
     have c2:=l2Key_ok (b.getD i 0) kb
     simp (disch:=first | omega | decide +kernel) only [D.ints,go_sem,Qa,Qb,Qc,Qd,Qe,↓reduceIte,reduceCtorEq,Qf,Qg,Qh]
     (repeat' (first | ((first | (refine gsel_split (fun q' => ?_) (fun q' => ?_)<;>(have h':=q')<;>(try simp only [za1,za2,Ba,Bb,za3,ne_eq,za4,za5,za6,Ia,Ib,Ic,Ie,Da,Bc,Bd,Be,za7,za8] at h')) | (have q':=trivial; first | refine callX_new (c1) rfl (by decide) ?_ | refine callY_new (c1) rfl ?_ | refine callX_new (c2) rfl (by decide) ?_ | refine callY_new (c2) rfl ?_ | refine hE _ _ ret_ne ?_ | refine hE _ _ exit_ne ?_))<;>(try simp (disch:=first | omega | decide +kernel) only [q',D.ints,go_sem,Qa,Qb,Qc,Qd,Qe,↓reduceIte,reduceCtorEq,Qf,Qg,Qh])<;>clear q') | refine hN _ ?_ ?_ Wk.kk | with_reducible refine And.intro ?_ ?_ | with_reducible omega | exact ok_ints | exact cells_ints | exact no_mem | with_reducible exact plain_ints | (refine le_maxLen ?_; omega) | (refine za9 ⟨?_,?_⟩) | (simp only [go_sem,Qc,Qb,zb1,zb2,forall_eq]; done)))
     . rename_i hne
       rw [befI_eq (by omega),lexI_at (by omega) hlt hI sa sb (by assumption)]
       rw [decide_eq_decide.2 (cmpLI_lt ka kb).1]
     . exact all_succ hI (by assumption)
   . simp (disch:=first | omega | decide +kernel) only [D.ints,go_sem,Qa,Qb,Qc,Qd,Qe,↓reduceIte,reduceCtorEq,Qf,Qg,Qh]
     (repeat' (first | ((first | (refine gsel_split (fun q' => ?_) (fun q' => ?_)<;>(have h':=q')<;>(try simp only [za1,za2,Ba,Bb,za3,ne_eq,za4,za5,za6,Ia,Ib,Ic,Ie,Da,Bc,Bd,Be,za7,za8] at h')) | (have q':=trivial; first | refine hE _ _ ret_ne ?_ | refine hE _ _ exit_ne ?_))<;>(try simp (disch:=first | omega | decide +kernel) only [q',go_sem,Qa,Qb,Qc,Qd,Qe,↓reduceIte,reduceCtorEq,Qf,Qg,Qh])<;>clear q') | refine hN _ ?_ ?_ Wk.kk | with_reducible refine And.intro ?_ ?_ | with_reducible omega | exact ok_ints | exact cells_ints | exact no_mem | with_reducible exact plain_ints | (refine le_maxLen ?_; omega) | (refine za9 ⟨?_,?_⟩) | (simp only [go_sem,Qc,Qb,zb1,zb2,forall_eq]; done)))
     have e : a=b:=ext_getDz 0 (by omega) fun j hj => hI j (by omega)
     rw [befI_eq (by omega),← e,lexI_self sa]
     rfl
theorem befI_self {a : List Int} (sa : Sm a) : befI a a=false:=by rw [befI_eq rfl,lexI_self sa]; rfl
end Abs.Y

namespace Abs.Y
open Go Go.Proofs Abs
open Nat renaming reduceEqDiff -> Qa, reduceLT -> Qb, reduceAdd -> Qc, reduceMul -> Qd, reduceSub -> Qe, reduceLeDiff -> Qf, reduceSubDiff -> Qg, reduceBEq -> Qh
open Bool renaming not_eq_true' -> Ba, not_eq_false' -> Bb, and_eq_true -> Bc, or_eq_true -> Bd, or_eq_false_iff -> Be
open Int renaming ofNat_lt -> Ia, ofNat_le -> Ib, not_lt -> Ic, not_le -> Ie
open Decidable renaming not_not -> Da
set_option maxRecDepth 100000

structure At (list : List (List Int)) (c : List Int) (k : Nat) : Prop where
 le : k<=list.length
 lo : ∀ j,j < k->befI (list.getD j []) c=true
 hi : ∀ j,k<=j->j < list.length->befI (list.getD j []) c=false
set_option maxHeartbeats 4000000 in
theorem l2Place_ok (list : List (List Int)) (c : List Int) (k : Nat) (hl : list.length<=4294967296) (hc : c.length<=4294967296) (sc : Sm c) (hx : ∀ x ∈ list,x.length<=4294967296∧Sm x) (hk : At list c k) :
 Ctr Try.prog 214 [.slice (list.map D.ints),.ints c] false (.d (.int .i64 (k : Nat))) []:=by
 refine Ctr.of (n:=27) (rs:=[.tmp 4]) Try.func214 rfl rfl Try.ntmps214 rfl rfl (by kernel_rfl) Try.checked.mixed ?_
 simp (disch:=first | omega | decide +kernel) only [go_sem,Qa,Qb,Qc,Qd,Qe,↓reduceIte,reduceCtorEq,Qf,Qg,Qh]
 (repeat' (first | ((first | (refine gsel_split (fun q' => ?_) (fun q' => ?_)<;>(have h':=q')<;>(try simp only [za1,za2,Ba,Bb,za3,ne_eq,za4,za5,za6,Ia,Ib,Ic,Ie,Da,Bc,Bd,Be,za7,za8] at h')) | (have q':=trivial; first | refine hE _ _ ret_ne ?_ | refine hE _ _ exit_ne ?_))<;>(try simp (disch:=first | omega | decide +kernel) only [q',go_sem,Qa,Qb,Qc,Qd,Qe,↓reduceIte,reduceCtorEq,Qf,Qg,Qh])<;>clear q') | refine hN _ ?_ ?_ Wk.kk | with_reducible refine And.intro ?_ ?_ | with_reducible omega | exact ok_ints | exact cells_ints | exact no_mem | with_reducible exact plain_ints | (refine le_maxLen ?_; omega) | (refine za9 ⟨?_,?_⟩) | (simp only [go_sem,Qc,Qb,zb1,zb2,forall_eq]; done)))
 refine Ok.loopU [25,24,23,22,21,20,19,18,17,16,15,14,13,12,11,10,9,8,7,6,5,3,2] (fun (p : Nat × Nat) => [(5,.d (.int .i64 (p.1 : Nat))),(6,.d (.int .i64 (p.2 : Nat)))]) (fun _ => []) (fun n p => n=p.2 - p.1∧p.1<=k∧k<=p.2∧p.2<=list.length) list.length (0,list.length)
  ⟨by simp,by simp,hk.le,Nat.le_refl _⟩ (Wk.kk) ?_
 rintro R n ⟨f,t⟩ hN hE ⟨hn,h1,h2,h3⟩
 simp only at hn h1 h2 h3
 have hm : ((f : Int) + (t : Int)).tdiv 2=(((f + t) / 2 : Nat) : Int):=by rw [Int.tdiv_eq_ediv_of_nonneg (by omega)]; omega
 have hmt : ((((f + t) / 2 : Nat) : Int)).toNat=(f + t) / 2:=by omega
 by_cases hlt : f < t
 . have hml : (f + t) / 2 < list.length:=by omega
   have hx1:=hx _ (getD_mem (z:=([] : List Int)) hml)
   have c1:=l2Before_ok (list.getD ((f + t) / 2) []) c hx1.1 hc hx1.2 sc
   simp (disch:=first | omega | decide +kernel) only [hm,go_sem,Qa,Qb,Qc,Qd,Qe,↓reduceIte,reduceCtorEq,Qf,Qg,Qh]
   (repeat' (first | ((first | (refine gsel_split (fun q' => ?_) (fun q' => ?_)<;>(have h':=q')<;>(try simp only [za1,za2,Ba,Bb,za3,ne_eq,za4,za5,za6,Ia,Ib,Ic,Ie,Da,Bc,Bd,Be,za7,za8] at h')) | (have q':=trivial; first | refine callX_new (c1) rfl (by decide) ?_ | refine callY_new (c1) rfl ?_ | refine hE _ _ ret_ne ?_ | refine hE _ _ exit_ne ?_))<;>(try simp (disch:=first | omega | decide +kernel) only [q',hm,hmt,go_sem,Qa,Qb,Qc,Qd,Qe,↓reduceIte,reduceCtorEq,Qf,Qg,Qh])<;>clear q') | refine hN _ ?_ ?_ Wk.kk | with_reducible refine And.intro ?_ ?_ | with_reducible omega | exact ok_ints | exact cells_ints | exact no_mem | with_reducible exact plain_ints | (refine le_maxLen ?_; omega) | (refine za9 ⟨?_,?_⟩) | (simp only [go_sem,Qc,Qb,zb1,zb2,forall_eq]; done)))
   . have hkm : (f + t) / 2 < k:=by
      apply Nat.lt_of_not_le
      intro h
      rw [hk.hi _ h hml] at h'
      cases h'
     exact hN (t - ((f + t) / 2 + 1)) ((f + t) / 2 + 1,t) _ (by omega) ⟨rfl,hkm,h2,h3⟩ (Wk.kk)
   . have hkm : k<=(f + t) / 2:=by
      apply Nat.le_of_not_lt
      intro h
      rw [hk.lo _ h] at h'
      cases h'
     exact hN ((f + t) / 2 - f) (f,(f + t) / 2) _ (by omega) ⟨rfl,h1,hkm,by omega⟩ (Wk.kk)
 . simp (disch:=first | omega | decide +kernel) only [hm,go_sem,Qa,Qb,Qc,Qd,Qe,↓reduceIte,reduceCtorEq,Qf,Qg,Qh]
   (repeat' (first | ((first | (refine gsel_split (fun q' => ?_) (fun q' => ?_)<;>(have h':=q')<;>(try simp only [za1,za2,Ba,Bb,za3,ne_eq,za4,za5,za6,Ia,Ib,Ic,Ie,Da,Bc,Bd,Be,za7,za8] at h')) | (have q':=trivial; first | refine hE _ _ ret_ne ?_ | refine hE _ _ exit_ne ?_))<;>(try simp (disch:=first | omega | decide +kernel) only [q',hm,hmt,go_sem,Qa,Qb,Qc,Qd,Qe,↓reduceIte,reduceCtorEq,Qf,Qg,Qh])<;>clear q') | refine hN _ ?_ ?_ Wk.kk | with_reducible refine And.intro ?_ ?_ | with_reducible omega | exact ok_ints | exact cells_ints | exact no_mem | with_reducible exact plain_ints | (refine le_maxLen ?_; omega) | (refine za9 ⟨?_,?_⟩) | (simp only [go_sem,Qc,Qb,zb1,zb2,forall_eq]; done)))
   rw [show f=k by omega]
end Abs.Y

namespace Abs.Y
open Go Go.Proofs Abs
open Nat renaming reduceEqDiff -> Qa, reduceLT -> Qb, reduceAdd -> Qc, reduceMul -> Qd, reduceSub -> Qe, reduceLeDiff -> Qf, reduceSubDiff -> Qg, reduceBEq -> Qh
open Bool renaming not_eq_true' -> Ba, not_eq_false' -> Bb, and_eq_true -> Bc, or_eq_true -> Bd, or_eq_false_iff -> Be
open Int renaming ofNat_lt -> Ia, ofNat_le -> Ib, not_lt -> Ic, not_le -> Ie
open Decidable renaming not_not -> Da
set_option maxRecDepth 100000

def keyI (x : Int) : Int:=if x < 0 then -2 * x + 1 else 2 * x
theorem keyI_inj {x y : Int} (h : keyI x=keyI y) : x=y:=by
 unfold keyI at h
 split at h<;>split at h<;>omega
def lexB : List Int->List Int->Bool
 | x :: r,y :: s => decide (keyI x < keyI y) || (decide (x=y) && lexB r s)
 | _,_ => false
theorem lexI_B : ∀ {a b : List Int},a.length=b.length->Sm a->Sm b->((lexI a b < 0)↔lexB a b=true)
 | [],[],_,_,_ => by simp [lexI,lexB]
 | x :: r, y :: s, hl, sa, sb => by
   have h:=cmpLI_lt (sa x (by simp)) (sb y (by simp))
   have ih:=lexI_B (a:=r) (b:=s) (by simpa using hl) (fun z hz => sa z (by simp [hz])) (fun z hz => sb z (by simp [hz]))
   rw [lexI,lexB,Bd,Bc,decide_eq_true_eq,decide_eq_true_eq]
   by_cases he : x=y
   . subst he
     rw [if_neg (by simpa using h.2.2 rfl),ih]
     constructor
     . exact fun h => .inr ⟨rfl,h⟩
     . rintro (h | h)
       . omega
       . exact h.2
   . rw [if_pos fun h0 => he (h.2.1 h0)]
     have h1 : cmpLI x y < 0↔keyI x < keyI y:=h.1
     rw [h1]
     constructor
     . exact .inl
     . rintro (h | h)
       . exact h
       . exact absurd h.1 he
 | [],_ :: _,hl,_,_ => by simp at hl
 | _ :: _,[],hl,_,_ => by simp at hl
theorem lexB_trans : ∀ {a b c : List Int},lexB a b=true->lexB b c=true->lexB a c=true
 | x :: r, y :: s, z :: t, h1, h2 => by
   rw [lexB,Bd,Bc,decide_eq_true_eq,decide_eq_true_eq] at *
   rcases h1 with h1 | ⟨rfl,h1⟩<;>rcases h2 with h2 | ⟨rfl,h2⟩
   . exact .inl (by omega)
   . exact .inl h1
   . exact .inl h2
   . exact .inr ⟨rfl,lexB_trans h1 h2⟩
 | [],_,_,h,_ => by simp [lexB] at h
 | _ :: _,[],_,h,_ => by simp [lexB] at h
 | _ :: _,_ :: _,[],_,h => by simp [lexB] at h
theorem lexB_total : ∀ {a b : List Int},a.length=b.length->lexB a b=true∨lexB b a=true∨a=b
 | [],[],_ => .inr (.inr rfl)
 | x :: r, y :: s, hl => by
   rw [lexB,lexB]
   simp only [Bd,Bc,decide_eq_true_eq]
   rcases Int.lt_trichotomy (keyI x) (keyI y) with h | h | h
   . exact .inl (.inl h)
   . obtain rfl:=keyI_inj h
     rcases lexB_total (a:=r) (b:=s) (by simpa using hl) with h | h | h
     . exact .inl (.inr ⟨rfl,h⟩)
     . exact .inr (.inl (.inr ⟨rfl,h⟩))
     . exact .inr (.inr (by rw [h]))
   . exact .inr (.inl (.inl h))
 | [],_ :: _,hl => by simp at hl
 | _ :: _,[],hl => by simp at hl
theorem befI_iff {a b : List Int} (sa : Sm a) (sb : Sm b) : befI a b=true↔a.length < b.length∨(a.length=b.length∧lexB a b=true):=by
 by_cases h : (a.length : Int)=b.length
 . rw [befI_eq h,decide_eq_true_eq,lexI_B (by omega) sa sb]
   constructor
   . exact fun h' => .inr ⟨by omega,h'⟩
   . rintro (h' | h')
     . omega
     . exact h'.2
 . rw [befI_len h,decide_eq_true_eq]
   constructor
   . exact fun h' => .inl (by omega)
   . rintro (h' | h')
     . omega
     . omega
theorem bef_trans {a b c : List Int} (sa : Sm a) (sb : Sm b) (sc : Sm c) (h1 : befI a b=true) (h2 : befI b c=true) : befI a c=true:=by
 rw [befI_iff sa sb] at h1
 rw [befI_iff sb sc] at h2
 rw [befI_iff sa sc]
 rcases h1 with h1 | h1<;>rcases h2 with h2 | h2
 . exact .inl (by omega)
 . exact .inl (by omega)
 . exact .inl (by omega)
 . exact .inr ⟨by omega,lexB_trans h1.2 h2.2⟩
theorem bef_total {a b : List Int} (sa : Sm a) (sb : Sm b) : befI a b=true∨befI b a=true∨a=b:=by
 rw [befI_iff sa sb,befI_iff sb sa]
 rcases Nat.lt_trichotomy a.length b.length with h | h | h
 . exact .inl (.inl h)
 . rcases lexB_total h with h' | h' | h'
   . exact .inl (.inr ⟨h,h'⟩)
   . exact .inr (.inl (.inr ⟨h.symm,h'⟩))
   . exact .inr (.inr h')
 . exact .inr (.inl (.inl h))
def Srt (l : List (List Int)) : Prop:=l.Pairwise (fun a b => befI a b=true)∧∀ x ∈ l,Sm x
theorem srt_uniq : ∀ {l1 l2 : List (List Int)},Srt l1->Srt l2->(∀ x,x ∈ l1↔x ∈ l2)->l1=l2
 | [],[],_,_,_ => rfl
 | [],y :: s,_,_,h => absurd ((h y).2 (by simp)) (by simp)
 | x :: r,[],_,_,h => absurd ((h x).1 (by simp)) (by simp)
 | x :: r, y :: s, g1, g2, h => by
   have p1:=List.pairwise_cons.1 g1.1
   have p2:=List.pairwise_cons.1 g2.1
   have sx:=g1.2 x (by simp)
   have sy:=g2.2 y (by simp)
   have no : ∀ {a b : List Int},Sm a->Sm b->befI a b=true->befI b a=true->False:=fun sa sb h1 h2 => by
    have:=bef_trans sa sb sa h1 h2
    rw [befI_self sa] at this
    cases this
   have hxy : x=y:=by
    rcases List.mem_cons.1 ((h x).1 (by simp)) with e | hx
    . exact e
    . rcases List.mem_cons.1 ((h y).2 (by simp)) with e | hy
      . exact e.symm
      . exact (no sy sx (p2.1 x hx) (p1.1 y hy)).elim
   subst hxy
   rw [srt_uniq (l1:=r) (l2:=s) ⟨p1.2,fun z hz => g1.2 z (by simp [hz])⟩ ⟨p2.2,fun z hz => g2.2 z (by simp [hz])⟩ fun z => ?_]
   constructor
   . intro hz
     rcases List.mem_cons.1 ((h z).1 (by simp [hz])) with rfl | h'
     . have:=p1.1 z hz; rw [befI_self sx] at this; cases this
     . exact h'
   . intro hz
     rcases List.mem_cons.1 ((h z).2 (by simp [hz])) with rfl | h'
     . have:=p2.1 z hz; rw [befI_self sx] at this; cases this
     . exact h'
end Abs.Y

namespace Abs.Y
open Go Go.Proofs Abs
open Nat renaming reduceEqDiff -> Qa, reduceLT -> Qb, reduceAdd -> Qc, reduceMul -> Qd, reduceSub -> Qe, reduceLeDiff -> Qf, reduceSubDiff -> Qg, reduceBEq -> Qh
open Bool renaming not_eq_true' -> Ba, not_eq_false' -> Bb, and_eq_true -> Bc, or_eq_true -> Bd, or_eq_false_iff -> Be
open Int renaming ofNat_lt -> Ia, ofNat_le -> Ib, not_lt -> Ic, not_le -> Ie
open Decidable renaming not_not -> Da
set_option maxRecDepth 100000

def plI (list : List (List Int)) (c : List Int) : Nat:=(list.takeWhile fun x => befI x c).length
def insI (list : List (List Int)) (c : List Int) : List (List Int):=if plI list c < list.length∧list.getD (plI list c) []=c then list else list.take (plI list c)++c :: list.drop (plI list c)
theorem tw_split (p : List Int->Bool) : ∀ (l : List (List Int)),l.take (l.takeWhile p).length=l.takeWhile p∧l.drop (l.takeWhile p).length=l.dropWhile p
 | [] => by simp
 | x :: r => by
   have:=tw_split p r
   by_cases h : p x=true
   . simp [h,this.1,this.2]
   . simp [h]
theorem srt_get {list : List (List Int)} (hs : Srt list) {i j : Nat} (hij : i < j) (hj : j < list.length) : befI (list.getD i []) (list.getD j [])=true:=by
 have h:=List.pairwise_iff_getElem.1 hs.1 i j (by omega) hj hij
 simpa [List.getD_eq_getElem?_getD,hj,show i < list.length by omega] using h
theorem takeWhile_all {p : List Int->Bool} : ∀ {l : List (List Int)} {x},x ∈ l.takeWhile p->p x=true
 | y :: r, x, h => by
   by_cases hp : p y=true
   . rw [List.takeWhile_cons_of_pos hp] at h
     rcases List.mem_cons.1 h with rfl | h
     . exact hp
     . exact takeWhile_all h
   . rw [List.takeWhile_cons_of_neg hp] at h
     cases h
 | [],x,h => by cases h
theorem dropWhile_head {p : List Int->Bool} : ∀ {l : List (List Int)} {x r},l.dropWhile p=x :: r->p x=false
 | y :: l, x, r, h => by
   by_cases hp : p y=true
   . rw [List.dropWhile_cons_of_pos hp] at h
     exact dropWhile_head h
   . rw [List.dropWhile_cons_of_neg hp] at h
     cases h
     simpa using hp
 | [],x,r,h => by cases h
theorem after_ge {list : List (List Int)} {c : List Int} (hs : Srt list) (sc : Sm c) : ∀ x ∈ list.dropWhile (fun x => befI x c),befI x c=false:=by
 intro x hx
 have hsub : (list.dropWhile fun x => befI x c).Sublist list:=List.dropWhile_sublist _
 have hp : (list.dropWhile fun x => befI x c).Pairwise (fun a b => befI a b=true):=hs.1.sublist hsub
 match hd : list.dropWhile (fun x => befI x c),hx with
 | y :: r, hx =>
   have hy:=dropWhile_head hd
   rw [hd] at hp hsub
   rcases List.mem_cons.1 hx with rfl | hx
   . exact hy
   . have h1:=(List.pairwise_cons.1 hp).1 x hx
     have sy : Sm y:=hs.2 y (hsub.subset (by simp))
     have sx : Sm x:=hs.2 x (hsub.subset (by simp [hx]))
     cases h2 : befI x c with
     | false => rfl
     | true =>
       have:=bef_trans sy sx sc h1 h2
       rw [hy] at this
       cases this
theorem plI_at {list : List (List Int)} {c : List Int} (hs : Srt list) (sc : Sm c) : At list c (plI list c):=by
 have hle : plI list c<=list.length:=(List.takeWhile_sublist _).length_le
 obtain ⟨h1,h2⟩:=tw_split (fun x => befI x c) list
 refine ⟨hle,fun j hj => ?_,fun j hj hl => ?_⟩
 . have hm : list.getD j [] ∈ list.takeWhile (fun x => befI x c):=by
    rw [← h1,List.mem_take_iff_getElem]
    exact ⟨j,by unfold plI at hj hle; omega,by simp [List.getD_eq_getElem?_getD,show j < list.length by omega]⟩
   exact takeWhile_all (p:=fun x => befI x c) hm
 . have hm : list.getD j [] ∈ list.dropWhile (fun x => befI x c):=by
    rw [← h2,List.mem_drop_iff_getElem]
    exact ⟨j - plI list c,by unfold plI at hj ⊢; omega,by
     have : (list.takeWhile fun x => befI x c).length + (j - plI list c)=j:=by unfold plI at hj ⊢; omega
     simp [List.getD_eq_getElem?_getD,hl,this]⟩
   exact after_ge hs sc _ hm
theorem insI_srt {list : List (List Int)} {c : List Int} (hs : Srt list) (sc : Sm c) : Srt (insI list c)∧∀ x,x ∈ insI list c↔x=c∨x ∈ list:=by
 unfold insI
 obtain ⟨h1,h2⟩:=tw_split (fun x => befI x c) list
 split
 . rename_i h
   refine ⟨hs,fun x => ⟨.inr,?_⟩⟩
   rintro (rfl | hx)
   . rw [← h.2]; exact getD_mem h.1
   . exact hx
 . rename_i h
   have hat:=plI_at hs sc
   unfold plI at *
   rw [h1,h2]
   have happ : list.takeWhile (fun x => befI x c)++list.dropWhile (fun x => befI x c)=list:=List.takeWhile_append_dropWhile
   have hmem : ∀ x,x ∈ list↔x ∈ list.takeWhile (fun x => befI x c)∨x ∈ list.dropWhile (fun x => befI x c):=fun x => by rw [← List.mem_append,happ]
   have hp:=hs.1
   rw [← happ,List.pairwise_append] at hp
   have hlt : ∀ x ∈ list.dropWhile (fun x => befI x c),befI c x=true:=by
    intro x hx
    have sx:=hs.2 x ((hmem x).2 (.inr hx))
    rcases bef_total sc sx with h' | h' | h'
    . exact h'
    . rw [after_ge hs sc x hx] at h'; cases h'
    . subst h'
      -- c itself stands behind the place: it is the first there
      exfalso
      match hd : list.dropWhile (fun x => befI x c),hx with
      | y :: r, hx =>
        rcases List.mem_cons.1 hx with e | hx'
        . apply h
          have hlen : (list.takeWhile fun x => befI x c).length < list.length:=by
           have:=congrArg List.length happ
           rw [hd] at this
           simp only [List.length_append,List.length_cons] at this
           omega
          refine ⟨hlen,?_⟩
          have h3 : list.drop (list.takeWhile fun x => befI x c).length=y :: r:=h2.trans hd
          have h4:=drop_cons ([] : List Int) list _ hlen
          rw [h3] at h4
          exact (List.cons.inj h4).1.symm.trans e.symm
        . have hy:=dropWhile_head hd
          have hpd:=hp.2.1
          rw [hd] at hpd
          have:=(List.pairwise_cons.1 hpd).1 c hx'
          rw [hy] at this; cases this
   refine ⟨⟨?_,fun x hx => ?_⟩,fun x => ?_⟩
   . rw [List.pairwise_append,List.pairwise_cons]
     refine ⟨hp.1,⟨hlt,hp.2.1⟩,fun x hx y hy => ?_⟩
     rcases List.mem_cons.1 hy with rfl | hy
     . exact takeWhile_all (p:=fun z => befI z _) hx
     . exact hp.2.2 x hx y hy
   . rcases List.mem_append.1 hx with hx | hx
     . exact hs.2 x ((hmem x).2 (.inl hx))
     . rcases List.mem_cons.1 hx with rfl | hx
       . exact sc
       . exact hs.2 x ((hmem x).2 (.inr hx))
   . rw [List.mem_append,List.mem_cons,hmem]
     constructor
     . rintro (h | h | h)
       . exact .inr (.inl h)
       . exact .inl h
       . exact .inr (.inr h)
     . rintro (h | h | h)
       . exact .inr (.inl h)
       . exact .inl h
       . exact .inr (.inr h)
end Abs.Y

namespace Abs.Y
open Go Go.Proofs Abs
open Nat renaming reduceEqDiff -> Qa, reduceLT -> Qb, reduceAdd -> Qc, reduceMul -> Qd, reduceSub -> Qe, reduceLeDiff -> Qf, reduceSubDiff -> Qg, reduceBEq -> Qh
open Bool renaming not_eq_true' -> Ba, not_eq_false' -> Bb, and_eq_true -> Bc, or_eq_true -> Bd, or_eq_false_iff -> Be
open Int renaming ofNat_lt -> Ia, ofNat_le -> Ib, not_lt -> Ic, not_le -> Ie
open Decidable renaming not_not -> Da
set_option maxRecDepth 100000

def leC (x y : List Int) : Bool:=!(befI y x)
theorem leC_total {x y : List Int} (sx : Sm x) (sy : Sm y) : leC x y || leC y x:=by
 unfold leC
 cases h : befI y x with
 | false => rfl
 | true =>
   cases h' : befI x y with
   | false => rfl
   | true =>
     have:=bef_trans sx sy sx h' h
     rw [befI_self sx] at this
     cases this
theorem leC_trans {x y z : List Int} (sx : Sm x) (sy : Sm y) (sz : Sm z) (h1 : leC x y=true) (h2 : leC y z=true) : leC x z=true:=by
 unfold leC at *
 simp only [Ba] at *
 cases h : befI z x with
 | false => rfl
 | true =>
   rcases bef_total sy sz with h' | h' | h'
   . rw [bef_trans sy sz sx h' h] at h1; cases h1
   . rw [h'] at h2; cases h2
   . subst h'; rw [h] at h1; cases h1
theorem srt_of {l : List (List Int)} (hs : ∀ x ∈ l,Sm x) (ho : l.Pairwise fun x y => leC x y=true) (hn : l.Nodup) : Srt l:=by
 refine ⟨?_,hs⟩
 have h:=List.Pairwise.and ho hn
 refine h.imp_of_mem fun {x y} hx hy ⟨h1,h2⟩ => ?_
 unfold leC at h1
 simp only [Ba] at h1
 rcases bef_total (hs x hx) (hs y hy) with h' | h' | h'
 . exact h'
 . rw [h'] at h1; cases h1
 . exact absurd h' h2
end Abs.Y
