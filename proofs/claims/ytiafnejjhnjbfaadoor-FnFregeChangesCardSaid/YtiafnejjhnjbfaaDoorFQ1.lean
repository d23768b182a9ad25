/- What functions of this program compute, over plain data. No condition. -/
import Derived.Test.YtiafnejjhnjbfaaDoorFO4
import Derived.Test.YtiafnejjhnjbfaaDoorFO1
set_option linter.all false
namespace Abs.Y
open Go Go.Proofs Abs
open Nat renaming reduceEqDiff -> Qa, reduceLT -> Qb, reduceAdd -> Qc, reduceMul -> Qd, reduceSub -> Qe, reduceLeDiff -> Qf, reduceSubDiff -> Qg, reduceBEq -> Qh
open Bool renaming not_eq_true' -> Ba, not_eq_false' -> Bb, and_eq_true -> Bc, or_eq_true -> Bh, or_eq_false_iff -> Be
open Int renaming ofNat_lt -> Ia, ofNat_le -> Ib, not_lt -> Ic, not_le -> Ie
open Decidable renaming not_not -> Da
set_option maxRecDepth 100000

theorem fmD_sh (a : Fm) : ∃ (c : Int) (x y : D),fmD a=.ptr (.agg [.int .u8 c,x,y,.str a.T]):=by cases a<;>exact ⟨_,_,_,rfl⟩
theorem fmD_na (a : Fm) : (fmD a).isAgg=false:=by obtain ⟨c,x,y,h⟩:=fmD_sh a; rw [h]; rfl
theorem fmD_nc (a : Fm) : (fmD a).cells.length=1:=by obtain ⟨c,x,y,h⟩:=fmD_sh a; rw [h]; rfl
noncomputable def parD (s : ByteArray) : D:=if okS s then fmD (fmS s) else .nilptr
theorem okS_long {s : ByteArray} (h : 80 < s.size) : okS s=false:=by rw [okS,decide_eq_false (by omega)]; rfl
theorem parse_okN (s : ByteArray) (hs : s.size<=1000000) : ∃ x,(okS s=true->x=fmD (fmS s))∧(x=.nilptr∨∃ a,x=fmD a)∧Ctr Tryd.prog 32 [.str s] true (.tup [.d x,.d (.bool (okS s))]) []:=by
 by_cases hl : 80 < s.size
 . refine ⟨.nilptr,fun h => absurd h (by rw [okS_long hl]; simp),.inl rfl,?_⟩
   rw [okS_long hl]
   refine Ctr.of (n:=23) (rs:=[.tmp 2,.tmp 3]) Tryd.func32 rfl rfl Tryd.ntmps32 rfl rfl (by kernel_rfl) Tryd.checked.mixed ?_
   simp (disch:=first | omega | decide +kernel) only [go_sem,Qa,Qb,Qc,Qd,Qe,↓reduceIte,reduceCtorEq,Qf,Qg,Qh]
   (repeat' (first | ((first | (refine gsel_split (fun q' => ?_) (fun q' => ?_)<;>(have h':=q')<;>(try simp only [za1,za2,Ba,Bb,za3,ne_eq,za4,za5,za6,Ia,Ib,Ic,Ie,Da,Bc,Bh,Be,za7,za8] at h')<;>try (exfalso; omega)) | (have q':=trivial; first | refine hE _ _ ret_ne ?_ | refine hE _ _ exit_ne ?_))<;>(try simp (disch:=first | omega | decide +kernel) only [q',go_sem,Qa,Qb,Qc,Qd,Qe,↓reduceIte,reduceCtorEq,Qf,Qg,Qh])<;>clear q') | refine hN _ ?_ ?_ Wk.kk | with_reducible refine And.intro ?_ ?_ | with_reducible omega | exact ok_ints | exact cells_ints | exact no_mem | with_reducible exact plain_ints | (refine le_maxLen ?_; omega) | (refine za9 ⟨?_,?_⟩) | (simp only [go_sem,Qc,Qb,zb1,zb2,forall_eq]; done)))
   all_goals (first | omega | exact absurd trivial ‹¬True› | exact ret_s2 [] rfl rfl)
 . have c:=Ctr.tupN (parseFrom_ok _ s (Nat.le_refl _) hs)
   cases h : prs (BL s) with
   | none =>
     have hk : okS s=false:=by rw [okS,h]; simp
     refine ⟨.nilptr,fun h => absurd h (by rw [hk]; simp),.inl rfl,?_⟩
     rw [hk]
     rw [h] at c
     simp only [resL] at c
     refine Ctr.of (n:=23) (rs:=[.tmp 2,.tmp 3]) Tryd.func32 rfl rfl Tryd.ntmps32 rfl rfl (by kernel_rfl) Tryd.checked.mixed ?_
     simp (disch:=first | omega | decide +kernel) only [go_sem,Qa,Qb,Qc,Qd,Qe,↓reduceIte,reduceCtorEq,Qf,Qg,Qh]
     (repeat' (first | ((first | (refine gsel_split (fun q' => ?_) (fun q' => ?_)<;>(have h':=q')<;>(try simp only [za1,za2,Ba,Bb,za3,ne_eq,za4,za5,za6,Ia,Ib,Ic,Ie,Da,Bc,Bh,Be,za7,za8] at h')<;>try (exfalso; omega)) | (have q':=trivial; first | refine callX_shared (c) rfl (by decide) ?_ | refine callY_shared (c) rfl ?_ | refine hE _ _ ret_ne ?_ | refine hE _ _ exit_ne ?_))<;>(try simp (disch:=first | omega | decide +kernel) only [q',go_sem,Qa,Qb,Qc,Qd,Qe,↓reduceIte,reduceCtorEq,Qf,Qg,Qh])<;>clear q') | refine hN _ ?_ ?_ Wk.kk | with_reducible refine And.intro ?_ ?_ | with_reducible omega | exact ok_ints | exact cells_ints | exact no_mem | with_reducible exact plain_ints | (refine le_maxLen ?_; omega) | (refine za9 ⟨?_,?_⟩) | (simp only [go_sem,Qc,Qb,zb1,zb2,forall_eq]; done)))
     all_goals (first | omega | exact absurd trivial ‹¬True› | exact ret_s2 [] rfl rfl)
   | some p =>
     obtain ⟨a,r⟩:=p
     rw [h] at c
     simp only [resL] at c
     cases r with
     | nil =>
       have hk : okS s=true:=by rw [okS,h]; simp; omega
       have hf : fmS s=a:=by rw [fmS,h]; rfl
       refine ⟨fmD a,fun _ => by rw [hf],.inr ⟨a,rfl⟩,?_⟩
       rw [hk]
       generalize fmD a=x at *
       refine Ctr.of (n:=23) (rs:=[.tmp 2,.tmp 3]) Tryd.func32 rfl rfl Tryd.ntmps32 rfl rfl (by kernel_rfl) Tryd.checked.mixed ?_
       simp (disch:=first | omega | decide +kernel) only [beq_self_eq_true,go_sem,Qa,Qb,Qc,Qd,Qe,↓reduceIte,reduceCtorEq,Qf,Qg,Qh]
       (repeat' (first | ((first | (refine gsel_split (fun q' => ?_) (fun q' => ?_)<;>(have h':=q')<;>(try simp only [za1,za2,Ba,Bb,za3,ne_eq,za4,za5,za6,Ia,Ib,Ic,Ie,Da,Bc,Bh,Be,za7,za8] at h')<;>try (exfalso; omega)) | (have q':=trivial; first | refine callX_shared (c) rfl (by decide) ?_ | refine callY_shared (c) rfl ?_ | refine hE _ _ ret_ne ?_ | refine hE _ _ exit_ne ?_))<;>(try simp (disch:=first | omega | decide +kernel) only [q',beq_self_eq_true,go_sem,Qa,Qb,Qc,Qd,Qe,↓reduceIte,reduceCtorEq,Qf,Qg,Qh])<;>clear q') | refine hN _ ?_ ?_ Wk.kk | with_reducible refine And.intro ?_ ?_ | with_reducible omega | exact ok_ints | exact cells_ints | exact no_mem | with_reducible exact plain_ints | (refine le_maxLen ?_; omega) | (refine za9 ⟨?_,?_⟩) | (simp only [go_sem,Qc,Qb,zb1,zb2,forall_eq]; done)))
       all_goals (first | omega | exact absurd trivial ‹¬True› | exact ret_s2 [] rfl rfl)
     | cons o r1 =>
       have hk : okS s=false:=by rw [okS,h]; simp
       refine ⟨.nilptr,fun h => absurd h (by rw [hk]; simp),.inl rfl,?_⟩
       rw [hk]
       obtain ⟨t,ht⟩ : ∃ t : ByteArray,t=⟨(o :: r1).toArray⟩:=⟨_,rfl⟩
       have fn:=ne_emp (show BL t=o :: r1 by rw [ht])
       rw [← ht] at c
       generalize fmD a=x at *
       refine Ctr.of (n:=23) (rs:=[.tmp 2,.tmp 3]) Tryd.func32 rfl rfl Tryd.ntmps32 rfl rfl (by kernel_rfl) Tryd.checked.mixed ?_
       simp (disch:=first | omega | decide +kernel) only [fn,go_sem,Qa,Qb,Qc,Qd,Qe,↓reduceIte,reduceCtorEq,Qf,Qg,Qh]
       (repeat' (first | ((first | (refine gsel_split (fun q' => ?_) (fun q' => ?_)<;>(have h':=q')<;>(try simp only [za1,za2,Ba,Bb,za3,ne_eq,za4,za5,za6,Ia,Ib,Ic,Ie,Da,Bc,Bh,Be,za7,za8] at h')<;>try (exfalso; omega)) | (have q':=trivial; first | refine callX_shared (c) rfl (by decide) ?_ | refine callY_shared (c) rfl ?_ | refine hE _ _ ret_ne ?_ | refine hE _ _ exit_ne ?_))<;>(try simp (disch:=first | omega | decide +kernel) only [q',fn,go_sem,Qa,Qb,Qc,Qd,Qe,↓reduceIte,reduceCtorEq,Qf,Qg,Qh])<;>clear q') | refine hN _ ?_ ?_ Wk.kk | with_reducible refine And.intro ?_ ?_ | with_reducible omega | exact ok_ints | exact cells_ints | exact no_mem | with_reducible exact plain_ints | (refine le_maxLen ?_; omega) | (refine za9 ⟨?_,?_⟩) | (simp only [go_sem,Qc,Qb,zb1,zb2,forall_eq]; done)))
       all_goals (first | omega | exact absurd trivial ‹¬True› | exact ret_s2 [] rfl rfl)
theorem parse_ok (s : ByteArray) (hs : s.size<=1000000) : ∃ x,(okS s=true->x=fmD (fmS s))∧Ctr Tryd.prog 32 [.str s] true (.tup [.d x,.d (.bool (okS s))]) [] :=
 let ⟨x,h,_,c⟩:=parse_okN s hs
 ⟨x,h,c⟩
end Abs.Y

namespace Abs.Y
open Go Go.Proofs Abs
open Nat renaming reduceEqDiff -> Qa, reduceLT -> Qb, reduceAdd -> Qc, reduceMul -> Qd, reduceSub -> Qe, reduceLeDiff -> Qf, reduceSubDiff -> Qg, reduceBEq -> Qh
open Bool renaming not_eq_true' -> Ba, not_eq_false' -> Bb, and_eq_true -> Bc, or_eq_true -> Bh, or_eq_false_iff -> Be
open Int renaming ofNat_lt -> Ia, ofNat_le -> Ib, not_lt -> Ic, not_le -> Ie
open Decidable renaming not_not -> Da
set_option maxRecDepth 100000

def f3 (a b c : Fm) (d : UInt8) : Fm:=if d=97 then a else if d=98 then b else c
theorem abc_let {c : UInt8} (h : (Fm.lf c).abc=true) (h' : isLet c=true) : c=97∨c=98∨c=99:=by
 rw [Fm.abc,Bh,decide_eq_true_eq,decide_eq_true_eq] at h
 rcases h with h | h | h
 . exact h
 . exact absurd h (let_ne h').1
 . exact absurd h (let_ne h').2
theorem size_ng (a : Fm) : (Fm.ng a).T.size=a.T.size + 1:=by simp only [size_BL,BL_T,Fm.tl,List.length_cons]
theorem size_jn (o : UInt8) (a b : Fm) : (Fm.jn o a b).T.size=a.T.size + b.T.size + 3:=by simp only [size_BL,BL_T,Fm.tl,List.length_cons,List.length_append,List.length_nil]; omega
theorem isp : isPtrT Tryd.prog 57=true:=by kernel_rfl
end Abs.Y

namespace Abs.Y
open Go Go.Proofs Abs
open Nat renaming reduceEqDiff -> Qa, reduceLT -> Qb, reduceAdd -> Qc, reduceMul -> Qd, reduceSub -> Qe, reduceLeDiff -> Qf, reduceSubDiff -> Qg, reduceBEq -> Qh
open Bool renaming not_eq_true' -> Ba, not_eq_false' -> Bb, and_eq_true -> Bc, or_eq_true -> Bh, or_eq_false_iff -> Be
open Int renaming ofNat_lt -> Ia, ofNat_le -> Ib, not_lt -> Ic, not_le -> Ie
open Decidable renaming not_not -> Da
set_option maxRecDepth 100000

def Fm.sg : Bool->Fm->Fm
 | p,.lf c => if c=48∨c=49 then (if p then .lf c else .lf (97 - c)) else (if p then .lf c else .ng (.lf c))
 | p,.ng a => a.sg (!p)
 | p,.jn o a b => if o=62 then (if p then .jn 124 (a.sg false) (b.sg true) else .jn 38 (a.sg true) (b.sg false)) else .jn (if p then o else 162 - o) (a.sg p) (b.sg p)
end Abs.Y
