/- What functions of this program compute, over plain data. No condition. -/
import Derived.Test.YtkccabajcdphkaaDoorFO4
import Derived.Test.YtkccabajcdphkaaDoorFS1
import Derived.Test.YtkccabajcdphkaaDoorFO3
import Derived.Test.YtkccabajcdphkaaDoorAbsBox
set_option linter.all false
namespace Abs.Y
open Go Go.Proofs Abs
open Nat renaming reduceEqDiff -> Qa, reduceLT -> Qb, reduceAdd -> Qc, reduceMul -> Qd, reduceSub -> Qe, reduceLeDiff -> Qf, reduceSubDiff -> Qg, reduceBEq -> Qh
open Bool renaming not_eq_true' -> Ba, not_eq_false' -> Bb, and_eq_true -> Bc, or_eq_true -> Bh, or_eq_false_iff -> Be
open Int renaming ofNat_lt -> Ia, ofNat_le -> Ib, not_lt -> Ic, not_le -> Ie
open Decidable renaming not_not -> Da
set_option maxRecDepth 100000

theorem fmD_sh (a : Fm) : ∃ (c : Int) (x y : D),fmD a=.ptr (.agg [.int .u8 c,x,y,.str a.T]):=by cases a<;>exact ⟨_,_,_,rfl⟩
theorem fmD_na (a : Fm) : (fmD a).isAgg=false:=by obtain ⟨c,x,y,h⟩:=fmD_sh a; rw [h]; rfl
theorem fmD_nc (a : Fm) : (fmD a).cells.length=1:=by obtain ⟨c,x,y,h⟩:=fmD_sh a; rw [h]; rfl
noncomputable def parD (s : ByteArray) : D:=if okS s then fmD (fmS s) else .nilptr
theorem okS_long {s : ByteArray} (h : 80 < s.size) : okS s=false:=by rw [okS,decide_eq_false (by omega)]; rfl
theorem parse_okN (s : ByteArray) (hs : s.size<=1000000) : ∃ x,(okS s=true->x=fmD (fmS s))∧(x=.nilptr∨∃ a,x=fmD a)∧Ctr Tryd.prog 102 [.str s] true (.tup [.d x,.d (.bool (okS s))]) []:=by
 by_cases hl : 80 < s.size
 . refine ⟨.nilptr,fun h => absurd h (by rw [okS_long hl]; simp),.inl rfl,?_⟩
   rw [okS_long hl]
   refine Ctr.of (n:=23) (rs:=[.tmp 2,.tmp 3]) Tryd.func102 rfl rfl Tryd.ntmps102 rfl rfl (by kernel_rfl) Tryd.checked.mixed ?_
   simp (disch:=first | omega | decide +kernel) only [go_sem,Qa,Qb,Qc,Qd,Qe,↓reduceIte,reduceCtorEq,Qf,Qg,Qh]
   (repeat' (first | ((first | (refine gsel_split (fun q' => ?_) (fun q' => ?_)<;>(have h':=q')<;>(try simp only [za1,za2,Ba,Bb,za3,ne_eq,za4,za5,za6,Ia,Ib,Ic,Ie,Da,Bc,Bh,Be,za7,za8] at h')<;>try (exfalso; omega)) | (have q':=trivial; first | refine hE _ _ ret_ne ?_ | refine hE _ _ exit_ne ?_))<;>(try simp (disch:=first | omega | decide +kernel) only [q',go_sem,Qa,Qb,Qc,Qd,Qe,↓reduceIte,reduceCtorEq,Qf,Qg,Qh])<;>clear q') | refine hN _ ?_ ?_ Wk.kk | with_reducible refine And.intro ?_ ?_ | with_reducible omega | exact ok_ints | exact cells_ints | exact no_mem | with_reducible exact plain_ints | (refine le_maxLen ?_; omega) | (refine za9 ⟨?_,?_⟩) | (simp only [go_sem,Qc,Qb,zb1,zb2,forall_eq]; done)))
   all_goals (first | omega | exact absurd trivial ‹¬True› | exact ret_s2 [] rfl rfl)
 . have c:=Ctr.tupN (parseFrom_ok _ s (Nat.le_refl _) hs)
   cases h : prs (BL s) with
   | none =>
     have hk : okS s=false:=by rw [okS,h]; simp
     refine ⟨.nilptr,fun h => absurd h (by rw [hk]; simp),.inl rfl,?_⟩
     rw [hk]
     rw [h] at c
     simp only [resL] at c
     refine Ctr.of (n:=23) (rs:=[.tmp 2,.tmp 3]) Tryd.func102 rfl rfl Tryd.ntmps102 rfl rfl (by kernel_rfl) Tryd.checked.mixed ?_
     simp (disch:=first | omega | decide +kernel) only [go_sem,Qa,Qb,Qc,Qd,Qe,↓reduceIte,reduceCtorEq,Qf,Qg,Qh]
     (repeat' (first | ((first | (refine gsel_split (fun q' => ?_) (fun q' => ?_)<;>(have h':=q')<;>(try simp only [za1,za2,Ba,Bb,za3,ne_eq,za4,za5,za6,Ia,Ib,Ic,Ie,Da,Bc,Bh,Be,za7,za8] at h')<;>try (exfalso; omega)) | (have q':=trivial; first | refine callX_shared (c) rfl (by decide) ?_ | refine callY_shared (c) rfl ?_ | refine hE _ _ ret_ne ?_ | refine hE _ _ exit_ne ?_))<;>(try simp (disch:=first | omega | decide +kernel) only [q',go_sem,Qa,Qb,Qc,Qd,Qe,↓reduceIte,reduceCtorEq,Qf,Qg,Qh])<;>clear q') | refine hN _ ?_ ?_ Wk.kk | with_reducible refine And.intro ?_ ?_ | with_reducible omega | exact ok_ints | exact cells_ints | exact no_mem | with_reducible exact plain_ints | (refine le_maxLen ?_; omega) | (refine za9 ⟨?_,?_⟩) | (simp only [go_sem,Qc,Qb,zb1,zb2,forall_eq]; done)))
     all_goals (first | omega | exact absurd trivial ‹¬True› | exact ret_s2 [] rfl rfl)
   | some p =>
     obtain ⟨a,r⟩:=p
     rw [h] at c
     simp only [resL] at c
     cases r with
     | nil =>
       have hk : okS s=true:=by rw [okS,h]; simp; omega
       have hf : fmS s=a:=by rw [fmS,h]; rfl
       refine ⟨fmD a,fun _ => by rw [hf],.inr ⟨a,rfl⟩,?_⟩
       rw [hk]
       generalize fmD a=x at *
       refine Ctr.of (n:=23) (rs:=[.tmp 2,.tmp 3]) Tryd.func102 rfl rfl Tryd.ntmps102 rfl rfl (by kernel_rfl) Tryd.checked.mixed ?_
       simp (disch:=first | omega | decide +kernel) only [beq_self_eq_true,go_sem,Qa,Qb,Qc,Qd,Qe,↓reduceIte,reduceCtorEq,Qf,Qg,Qh]
       (repeat' (first | ((first | (refine gsel_split (fun q' => ?_) (fun q' => ?_)<;>(have h':=q')<;>(try simp only [za1,za2,Ba,Bb,za3,ne_eq,za4,za5,za6,Ia,Ib,Ic,Ie,Da,Bc,Bh,Be,za7,za8] at h')<;>try (exfalso; omega)) | (have q':=trivial; first | refine callX_shared (c) rfl (by decide) ?_ | refine callY_shared (c) rfl ?_ | refine hE _ _ ret_ne ?_ | refine hE _ _ exit_ne ?_))<;>(try simp (disch:=first | omega | decide +kernel) only [q',beq_self_eq_true,go_sem,Qa,Qb,Qc,Qd,Qe,↓reduceIte,reduceCtorEq,Qf,Qg,Qh])<;>clear q') | refine hN _ ?_ ?_ Wk.kk | with_reducible refine And.intro ?_ ?_ | with_reducible omega | exact ok_ints | exact cells_ints | exact no_mem | with_reducible exact plain_ints | (refine le_maxLen ?_; omega) | (refine za9 ⟨?_,?_⟩) | (simp only [go_sem,Qc,Qb,zb1,zb2,forall_eq]; done)))
       all_goals (first | omega | exact absurd trivial ‹¬True› | exact ret_s2 [] rfl rfl)
     | cons o r1 =>
       have hk : okS s=false:=by rw [okS,h]; simp
       refine ⟨.nilptr,fun h => absurd h (by rw [hk]; simp),.inl rfl,?_⟩
       rw [hk]
       obtain ⟨t,ht⟩ : ∃ t : ByteArray,t=⟨(o :: r1).toArray⟩:=⟨_,rfl⟩
       have fn:=ne_emp (show BL t=o :: r1 by rw [ht])
       rw [← ht] at c
       generalize fmD a=x at *
       refine Ctr.of (n:=23) (rs:=[.tmp 2,.tmp 3]) Tryd.func102 rfl rfl Tryd.ntmps102 rfl rfl (by kernel_rfl) Tryd.checked.mixed ?_
       simp (disch:=first | omega | decide +kernel) only [fn,go_sem,Qa,Qb,Qc,Qd,Qe,↓reduceIte,reduceCtorEq,Qf,Qg,Qh]
       (repeat' (first | ((first | (refine gsel_split (fun q' => ?_) (fun q' => ?_)<;>(have h':=q')<;>(try simp only [za1,za2,Ba,Bb,za3,ne_eq,za4,za5,za6,Ia,Ib,Ic,Ie,Da,Bc,Bh,Be,za7,za8] at h')<;>try (exfalso; omega)) | (have q':=trivial; first | refine callX_shared (c) rfl (by decide) ?_ | refine callY_shared (c) rfl ?_ | refine hE _ _ ret_ne ?_ | refine hE _ _ exit_ne ?_))<;>(try simp (disch:=first | omega | decide +kernel) only [q',fn,go_sem,Qa,Qb,Qc,Qd,Qe,↓reduceIte,reduceCtorEq,Qf,Qg,Qh])<;>clear q') | refine hN _ ?_ ?_ Wk.kk | with_reducible refine And.intro ?_ ?_ | with_reducible omega | exact ok_ints | exact cells_ints | exact no_mem | with_reducible exact plain_ints | (refine le_maxLen ?_; omega) | (refine za9 ⟨?_,?_⟩) | (simp only [go_sem,Qc,Qb,zb1,zb2,forall_eq]; done)))
       all_goals (first | omega | exact absurd trivial ‹¬True› | exact ret_s2 [] rfl rfl)
theorem parse_ok (s : ByteArray) (hs : s.size<=1000000) : ∃ x,(okS s=true->x=fmD (fmS s))∧Ctr Tryd.prog 102 [.str s] true (.tup [.d x,.d (.bool (okS s))]) [] :=
 let ⟨x,h,_,c⟩:=parse_okN s hs
 ⟨x,h,c⟩
theorem shown_ok (a : Fm) : Ctr Tryd.prog 109 [fmD a] false (.tup [.d (.str (if a.T.size<=80 then a.T else ⟨#[]⟩)),.d (.bool (decide (a.T.size<=80)))]) []:=by
 obtain ⟨c,x,y,h⟩:=fmD_sh a
 rw [h]
 generalize a.T=t at *
 by_cases hl : t.size<=80
 . rw [if_pos hl,decide_eq_true hl]
   refine Ctr.of (n:=14) (rs:=[.tmp 2,.tmp 3]) Tryd.func109 rfl rfl Tryd.ntmps109 rfl rfl (by kernel_rfl) Tryd.checked.mixed ?_
   simp (disch:=first | omega | decide +kernel) only [go_sem,Qa,Qb,Qc,Qd,Qe,↓reduceIte,reduceCtorEq,Qf,Qg,Qh]
   (repeat' (first | ((first | (refine gsel_split (fun q' => ?_) (fun q' => ?_)<;>(have h':=q')<;>(try simp only [za1,za2,Ba,Bb,za3,ne_eq,za4,za5,za6,Ia,Ib,Ic,Ie,Da,Bc,Bh,Be,za7,za8] at h')<;>try (exfalso; omega)) | (have q':=trivial; first | refine hE _ _ ret_ne ?_ | refine hE _ _ exit_ne ?_))<;>(try simp (disch:=first | omega | decide +kernel) only [q',go_sem,Qa,Qb,Qc,Qd,Qe,↓reduceIte,reduceCtorEq,Qf,Qg,Qh])<;>clear q') | refine hN _ ?_ ?_ Wk.kk | with_reducible refine And.intro ?_ ?_ | with_reducible omega | exact ok_ints | exact cells_ints | exact no_mem | with_reducible exact plain_ints | (refine le_maxLen ?_; omega) | (refine za9 ⟨?_,?_⟩) | (simp only [go_sem,Qc,Qb,zb1,zb2,forall_eq]; done)))
   all_goals (first | omega | exact absurd trivial ‹¬True›)
 . rw [if_neg hl,decide_eq_false hl]
   refine Ctr.of (n:=14) (rs:=[.tmp 2,.tmp 3]) Tryd.func109 rfl rfl Tryd.ntmps109 rfl rfl (by kernel_rfl) Tryd.checked.mixed ?_
   simp (disch:=first | omega | decide +kernel) only [go_sem,Qa,Qb,Qc,Qd,Qe,↓reduceIte,reduceCtorEq,Qf,Qg,Qh]
   (repeat' (first | ((first | (refine gsel_split (fun q' => ?_) (fun q' => ?_)<;>(have h':=q')<;>(try simp only [za1,za2,Ba,Bb,za3,ne_eq,za4,za5,za6,Ia,Ib,Ic,Ie,Da,Bc,Bh,Be,za7,za8] at h')<;>try (exfalso; omega)) | (have q':=trivial; first | refine hE _ _ ret_ne ?_ | refine hE _ _ exit_ne ?_))<;>(try simp (disch:=first | omega | decide +kernel) only [q',go_sem,Qa,Qb,Qc,Qd,Qe,↓reduceIte,reduceCtorEq,Qf,Qg,Qh])<;>clear q') | refine hN _ ?_ ?_ Wk.kk | with_reducible refine And.intro ?_ ?_ | with_reducible omega | exact ok_ints | exact cells_ints | exact no_mem | with_reducible exact plain_ints | (refine le_maxLen ?_; omega) | (refine za9 ⟨?_,?_⟩) | (simp only [go_sem,Qc,Qb,zb1,zb2,forall_eq]; done)))
   all_goals (first | omega | exact absurd trivial ‹¬True›)
theorem bit_w : ∀ m : Nat,m < 64->∀ d,d < 6->(bitV .and .i64 ((m : Int).fdiv (2 ^ min d 64)) 1 == 1)=Nat.testBit m d:=by decide +kernel
set_option maxHeartbeats 8000000 in
theorem value_ok (m : Nat) (hm : m < 64) : ∀ x : Fm,x.wf=true->Ctr Tryd.prog 103 [fmD x,.int .i64 m] false (.d (.bool (x.vl (bitF m)))) []
 | .lf c, hw => by
   unfold fmD
   rw [Fm.vl]
   by_cases h0 : c=48
   . rw [if_pos h0,h0]
     generalize (Fm.lf 48).T=t at *
     have e : ((48 : UInt8).toNat : Int)=48:=rfl
     rw [e]
     refine Ctr.of (n:=84) (rs:=[.tmp 4]) Tryd.func103 rfl rfl Tryd.ntmps103 rfl rfl (by kernel_rfl) Tryd.checked.mixed ?_
     simp (disch:=first | omega | decide +kernel) only [go_sem,Qa,Qb,Qc,Qd,Qe,↓reduceIte,reduceCtorEq,Qf,Qg,Qh]
     (repeat' (first | ((first | (refine gsel_split (fun q' => ?_) (fun q' => ?_)<;>(have h':=q')<;>(try simp only [za1,za2,Ba,Bb,za3,ne_eq,za4,za5,za6,Ia,Ib,Ic,Ie,Da,Bc,Bh,Be,za7,za8] at h')<;>try (exfalso; omega)) | (have q':=trivial; first | refine hE _ _ ret_ne ?_ | refine hE _ _ exit_ne ?_))<;>(try simp (disch:=first | omega | decide +kernel) only [q',go_sem,Qa,Qb,Qc,Qd,Qe,↓reduceIte,reduceCtorEq,Qf,Qg,Qh])<;>clear q') | refine hN _ ?_ ?_ Wk.kk | with_reducible refine And.intro ?_ ?_ | with_reducible omega | exact ok_ints | exact cells_ints | exact no_mem | with_reducible exact plain_ints | (refine le_maxLen ?_; omega) | (refine za9 ⟨?_,?_⟩) | (simp only [go_sem,Qc,Qb,zb1,zb2,forall_eq]; done)))
     all_goals (first | omega | assumption | exact absurd trivial ‹¬True› | exact congrArg D.bool (by decide))
   . rw [if_neg h0]
     have h0 : ¬ (c.toNat : Int)=48:=fun h => h0 (toN_eq.1 h)
     by_cases h1 : c=49
     . rw [if_pos h1,h1]
       generalize (Fm.lf 49).T=t at *
       have e : ((49 : UInt8).toNat : Int)=49:=rfl
       rw [e]
       refine Ctr.of (n:=84) (rs:=[.tmp 4]) Tryd.func103 rfl rfl Tryd.ntmps103 rfl rfl (by kernel_rfl) Tryd.checked.mixed ?_
       simp (disch:=first | omega | decide +kernel) only [go_sem,Qa,Qb,Qc,Qd,Qe,↓reduceIte,reduceCtorEq,Qf,Qg,Qh]
       (repeat' (first | ((first | (refine gsel_split (fun q' => ?_) (fun q' => ?_)<;>(have h':=q')<;>(try simp only [za1,za2,Ba,Bb,za3,ne_eq,za4,za5,za6,Ia,Ib,Ic,Ie,Da,Bc,Bh,Be,za7,za8] at h')<;>try (exfalso; omega)) | (have q':=trivial; first | refine hE _ _ ret_ne ?_ | refine hE _ _ exit_ne ?_))<;>(try simp (disch:=first | omega | decide +kernel) only [q',go_sem,Qa,Qb,Qc,Qd,Qe,↓reduceIte,reduceCtorEq,Qf,Qg,Qh])<;>clear q') | refine hN _ ?_ ?_ Wk.kk | with_reducible refine And.intro ?_ ?_ | with_reducible omega | exact ok_ints | exact cells_ints | exact no_mem | with_reducible exact plain_ints | (refine le_maxLen ?_; omega) | (refine za9 ⟨?_,?_⟩) | (simp only [go_sem,Qc,Qb,zb1,zb2,forall_eq]; done)))
       all_goals (first | omega | assumption | exact absurd trivial ‹¬True› | exact congrArg D.bool (by decide))
     . rw [if_neg h1]
       have h1 : ¬ (c.toNat : Int)=49:=fun h => h1 (toN_eq.1 h)
       have hl : 97<=c.toNat∧c.toNat<=102:=by
        have h2 : isLet c=true:=by
         have h2 : isLf c=true:=hw
         rw [isLf,Bh,decide_eq_true_eq] at h2
         rcases h2 with (h2 | h2) | h2
         . subst h2; exact absurd rfl h0
         . subst h2; exact absurd rfl h1
         . exact h2
        have h3:=of_decide_eq_true h2
        rw [UInt8.le_iff_toNat_le,UInt8.le_iff_toNat_le] at h3
        exact h3
       have hwr : IntKind.u8.wrap ((c.toNat : Int) - 97)=((c.toNat - 97 : Nat) : Int):=by
        rw [show (c.toNat : Int) - 97=((c.toNat - 97 : Nat) : Int) by omega]
        have : ∀ d,d < 6->IntKind.u8.wrap ((d : Nat) : Int)=(d : Nat):=by decide
        exact this _ (by omega)
       have hbt:=bit_w m hm (c.toNat - 97) (by omega)
       have hd : (0 : Int)<=((c.toNat - 97 : Nat) : Int):=by omega
       rw [bitF]
       generalize (Fm.lf c).T=t at *
       have g1 : ¬ (c.toNat : Int)=126:=by omega
       have g2 : ¬ (c.toNat : Int)=38:=by omega
       have g3 : ¬ (c.toNat : Int)=124:=by omega
       have g4 : ¬ (c.toNat : Int)=62:=by omega
       generalize (c.toNat - 97)=d at *
       have hb : IntKind.i64.bits=64:=rfl
       refine Ctr.of (n:=84) (rs:=[.tmp 4]) Tryd.func103 rfl rfl Tryd.ntmps103 rfl rfl (by kernel_rfl) Tryd.checked.mixed ?_
       simp (disch:=first | omega | decide +kernel) only [h0,h1,g1,g2,g3,g4,hwr,hbt,hb,go_sem,Qa,Qb,Qc,Qd,Qe,↓reduceIte,reduceCtorEq,Qf,Qg,Qh]
       (repeat' (first | ((first | (refine gsel_split (fun q' => ?_) (fun q' => ?_)<;>(have h':=q')<;>(try simp only [za1,za2,Ba,Bb,za3,ne_eq,za4,za5,za6,Ia,Ib,Ic,Ie,Da,Bc,Bh,Be,za7,za8] at h')<;>try (exfalso; omega)) | (have q':=trivial; first | refine hE _ _ ret_ne ?_ | refine hE _ _ exit_ne ?_))<;>(try simp (disch:=first | omega | decide +kernel) only [q',h0,h1,g1,g2,g3,g4,hwr,hbt,hb,go_sem,Qa,Qb,Qc,Qd,Qe,↓reduceIte,reduceCtorEq,Qf,Qg,Qh])<;>clear q') | refine hN _ ?_ ?_ Wk.kk | with_reducible refine And.intro ?_ ?_ | with_reducible omega | exact ok_ints | exact cells_ints | exact no_mem | with_reducible exact plain_ints | (refine le_maxLen ?_; omega) | (refine za9 ⟨?_,?_⟩) | (simp only [go_sem,Qc,Qb,zb1,zb2,forall_eq]; done)))
       all_goals (first | omega | assumption | exact absurd trivial ‹¬True› | exact congrArg D.bool (by decide))
 | .ng a, hw => by
   have c:=value_ok m hm a hw
   have n1:=fmD_na a
   have n2:=fmD_nc a
   rw [fmD,Fm.vl]
   generalize (Fm.ng a).T=t at *
   generalize fmD a=x at *
   generalize a.vl (bitF m)=b at *
   refine Ctr.of (n:=84) (rs:=[.tmp 4]) Tryd.func103 rfl rfl Tryd.ntmps103 rfl rfl (by kernel_rfl) Tryd.checked.mixed ?_
   simp (disch:=first | omega | decide +kernel) only [go_sem,Qa,Qb,Qc,Qd,Qe,↓reduceIte,reduceCtorEq,Qf,Qg,Qh]
   (repeat' (first | ((first | (refine gsel_split (fun q' => ?_) (fun q' => ?_)<;>(have h':=q')<;>(try simp only [za1,za2,Ba,Bb,za3,ne_eq,za4,za5,za6,Ia,Ib,Ic,Ie,Da,Bc,Bh,Be,za7,za8] at h')<;>try (exfalso; omega)) | (have q':=trivial; first | refine callX_new (c) rfl (by decide) ?_ | refine callY_new (c) rfl ?_ | refine hE _ _ ret_ne ?_ | refine hE _ _ exit_ne ?_))<;>(try simp (disch:=first | omega | decide +kernel) only [q',go_sem,Qa,Qb,Qc,Qd,Qe,↓reduceIte,reduceCtorEq,Qf,Qg,Qh])<;>clear q') | refine hN _ ?_ ?_ Wk.kk | with_reducible refine And.intro ?_ ?_ | with_reducible omega | exact ok_ints | exact cells_ints | exact no_mem | with_reducible exact plain_ints | (refine le_maxLen ?_; omega) | (refine za9 ⟨?_,?_⟩) | (simp only [go_sem,Qc,Qb,zb1,zb2,forall_eq]; done)))
   all_goals (first | omega | assumption | exact absurd trivial ‹¬True› | exact congrArg D.bool (by decide))
 | .jn o a b, hw => by
   have hw' : (isOp o && a.wf && b.wf)=true:=hw
   simp only [Bc] at hw'
   have c:=value_ok m hm a hw'.1.2
   have c':=value_ok m hm b hw'.2
   have ho:=of_decide_eq_true hw'.1.1
   have n1:=fmD_na a
   have n2:=fmD_nc a
   have m1:=fmD_na b
   have m2:=fmD_nc b
   rw [fmD,Fm.vl]
   generalize (Fm.jn o a b).T=t at *
   generalize fmD a=x at *
   generalize fmD b=y at *
   generalize a.vl (bitF m)=p at *
   generalize b.vl (bitF m)=q at *
   rcases ho with rfl | rfl | rfl
   . rw [if_pos rfl,show ((38 : UInt8).toNat : Int)=38 from rfl]
     cases p <;>
     . refine Ctr.of (n:=84) (rs:=[.tmp 4]) Tryd.func103 rfl rfl Tryd.ntmps103 rfl rfl (by kernel_rfl) Tryd.checked.mixed ?_
       simp (disch:=first | omega | decide +kernel) only [Bool.true_and,Bool.false_and,go_sem,Qa,Qb,Qc,Qd,Qe,↓reduceIte,reduceCtorEq,Qf,Qg,Qh]
       (repeat' (first | ((first | (refine gsel_split (fun q' => ?_) (fun q' => ?_)<;>(have h':=q')<;>(try simp only [za1,za2,Ba,Bb,za3,ne_eq,za4,za5,za6,Ia,Ib,Ic,Ie,Da,Bc,Bh,Be,za7,za8] at h')<;>try (exfalso; omega)) | (have q':=trivial; first | refine callX_new (c) rfl (by decide) ?_ | refine callY_new (c) rfl ?_ | refine callX_new (c') rfl (by decide) ?_ | refine callY_new (c') rfl ?_ | refine hE _ _ ret_ne ?_ | refine hE _ _ exit_ne ?_))<;>(try simp (disch:=first | omega | decide +kernel) only [q',Bool.true_and,Bool.false_and,go_sem,Qa,Qb,Qc,Qd,Qe,↓reduceIte,reduceCtorEq,Qf,Qg,Qh])<;>clear q') | refine hN _ ?_ ?_ Wk.kk | with_reducible refine And.intro ?_ ?_ | with_reducible omega | exact ok_ints | exact cells_ints | exact no_mem | with_reducible exact plain_ints | (refine le_maxLen ?_; omega) | (refine za9 ⟨?_,?_⟩) | (simp only [go_sem,Qc,Qb,zb1,zb2,forall_eq]; done)))
       all_goals (first | omega | assumption | exact absurd trivial ‹¬True› | exact congrArg D.bool (by decide))
   . rw [if_neg (by decide),if_pos rfl,show ((124 : UInt8).toNat : Int)=124 from rfl]
     cases p <;>
     . refine Ctr.of (n:=84) (rs:=[.tmp 4]) Tryd.func103 rfl rfl Tryd.ntmps103 rfl rfl (by kernel_rfl) Tryd.checked.mixed ?_
       simp (disch:=first | omega | decide +kernel) only [Bool.true_or,Bool.false_or,go_sem,Qa,Qb,Qc,Qd,Qe,↓reduceIte,reduceCtorEq,Qf,Qg,Qh]
       (repeat' (first | ((first | (refine gsel_split (fun q' => ?_) (fun q' => ?_)<;>(have h':=q')<;>(try simp only [za1,za2,Ba,Bb,za3,ne_eq,za4,za5,za6,Ia,Ib,Ic,Ie,Da,Bc,Bh,Be,za7,za8] at h')<;>try (exfalso; omega)) | (have q':=trivial; first | refine callX_new (c) rfl (by decide) ?_ | refine callY_new (c) rfl ?_ | refine callX_new (c') rfl (by decide) ?_ | refine callY_new (c') rfl ?_ | refine hE _ _ ret_ne ?_ | refine hE _ _ exit_ne ?_))<;>(try simp (disch:=first | omega | decide +kernel) only [q',Bool.true_or,Bool.false_or,go_sem,Qa,Qb,Qc,Qd,Qe,↓reduceIte,reduceCtorEq,Qf,Qg,Qh])<;>clear q') | refine hN _ ?_ ?_ Wk.kk | with_reducible refine And.intro ?_ ?_ | with_reducible omega | exact ok_ints | exact cells_ints | exact no_mem | with_reducible exact plain_ints | (refine le_maxLen ?_; omega) | (refine za9 ⟨?_,?_⟩) | (simp only [go_sem,Qc,Qb,zb1,zb2,forall_eq]; done)))
       all_goals (first | omega | assumption | exact absurd trivial ‹¬True› | exact congrArg D.bool (by decide))
   . rw [if_neg (by decide),if_neg (by decide),show ((62 : UInt8).toNat : Int)=62 from rfl]
     cases p <;>
     . refine Ctr.of (n:=84) (rs:=[.tmp 4]) Tryd.func103 rfl rfl Tryd.ntmps103 rfl rfl (by kernel_rfl) Tryd.checked.mixed ?_
       simp (disch:=first | omega | decide +kernel) only [Bool.not_true,Bool.not_false,Bool.true_or,Bool.false_or,go_sem,Qa,Qb,Qc,Qd,Qe,↓reduceIte,reduceCtorEq,Qf,Qg,Qh]
       (repeat' (first | ((first | (refine gsel_split (fun q' => ?_) (fun q' => ?_)<;>(have h':=q')<;>(try simp only [za1,za2,Ba,Bb,za3,ne_eq,za4,za5,za6,Ia,Ib,Ic,Ie,Da,Bc,Bh,Be,za7,za8] at h')<;>try (exfalso; omega)) | (have q':=trivial; first | refine callX_new (c) rfl (by decide) ?_ | refine callY_new (c) rfl ?_ | refine callX_new (c') rfl (by decide) ?_ | refine callY_new (c') rfl ?_ | refine hE _ _ ret_ne ?_ | refine hE _ _ exit_ne ?_))<;>(try simp (disch:=first | omega | decide +kernel) only [q',Bool.not_true,Bool.not_false,Bool.true_or,Bool.false_or,go_sem,Qa,Qb,Qc,Qd,Qe,↓reduceIte,reduceCtorEq,Qf,Qg,Qh])<;>clear q') | refine hN _ ?_ ?_ Wk.kk | with_reducible refine And.intro ?_ ?_ | with_reducible omega | exact ok_ints | exact cells_ints | exact no_mem | with_reducible exact plain_ints | (refine le_maxLen ?_; omega) | (refine za9 ⟨?_,?_⟩) | (simp only [go_sem,Qc,Qb,zb1,zb2,forall_eq]; done)))
       all_goals (first | omega | assumption | exact absurd trivial ‹¬True› | exact congrArg D.bool (by decide))
end Abs.Y

namespace Abs.Y
open Go Go.Proofs Abs
open Nat renaming reduceEqDiff -> Qa, reduceLT -> Qb, reduceAdd -> Qc, reduceMul -> Qd, reduceSub -> Qe, reduceLeDiff -> Qf, reduceSubDiff -> Qg, reduceBEq -> Qh
open Bool renaming not_eq_true' -> Ba, not_eq_false' -> Bb, and_eq_true -> Bc, or_eq_true -> Bh, or_eq_false_iff -> Be
open Int renaming ofNat_lt -> Ia, ofNat_le -> Ib, not_lt -> Ic, not_le -> Ie
open Decidable renaming not_not -> Da
set_option maxRecDepth 100000

theorem l22Good_ok (s : ByteArray) (hs : s.size<=1000000) : Ctr Tryd.prog 98 [.str s] false (.d (.bool (okS s))) []:=by
 have c1:=l22End_ok s hs s.size 0 (by omega) (by omega)
 have e0 : ((0 : Nat) : Int)=0:=rfl
 rw [e0] at c1
 by_cases h80 : s.size<=80
 . by_cases h0 : s.size=0
   . have hk : okS s=false:=by
      rw [okS,show BL s=[] from List.eq_nil_of_length_eq_zero (by rw [← size_BL]; exact h0),prs_nil]; simp
     rw [hk]
     refine Ctr.of (n:=18) (rs:=[.tmp 2]) Tryd.func98 rfl rfl Tryd.ntmps98 rfl rfl (by kernel_rfl) Tryd.checked.mixed ?_
     simp (disch:=first | omega | decide +kernel) only [go_sem,Qa,Qb,Qc,Qd,Qe,↓reduceIte,reduceCtorEq,Qf,Qg,Qh]
     (repeat' (first | ((first | (refine gsel_split (fun q' => ?_) (fun q' => ?_)<;>(have h':=q')<;>(try simp only [za1,za2,Ba,Bb,za3,ne_eq,za4,za5,za6,Ia,Ib,Ic,Ie,Da,Bc,Bh,Be,za7,za8] at h')<;>try (exfalso; omega)) | (have q':=trivial; first | refine callX_new (c1) rfl (by decide) ?_ | refine callY_new (c1) rfl ?_ | refine hE _ _ ret_ne ?_ | refine hE _ _ exit_ne ?_))<;>(try simp (disch:=first | omega | decide +kernel) only [q',go_sem,Qa,Qb,Qc,Qd,Qe,↓reduceIte,reduceCtorEq,Qf,Qg,Qh])<;>clear q') | refine hN _ ?_ ?_ Wk.kk | with_reducible refine And.intro ?_ ?_ | with_reducible omega | exact ok_ints | exact cells_ints | exact no_mem | with_reducible exact plain_ints | (refine le_maxLen ?_; omega) | (refine za9 ⟨?_,?_⟩) | (simp only [go_sem,Qc,Qb,zb1,zb2,forall_eq]; done)))
     all_goals (first | omega | assumption | rfl | exact absurd trivial ‹¬True›)
   . cases hp : prs (BL s) with
     | none =>
       have hk : okS s=false:=by rw [okS,hp]; simp
       rw [endI_no (by rw [List.drop_zero]; exact hp)] at c1
       rw [hk]
       refine Ctr.of (n:=18) (rs:=[.tmp 2]) Tryd.func98 rfl rfl Tryd.ntmps98 rfl rfl (by kernel_rfl) Tryd.checked.mixed ?_
       simp (disch:=first | omega | decide +kernel) only [go_sem,Qa,Qb,Qc,Qd,Qe,↓reduceIte,reduceCtorEq,Qf,Qg,Qh]
       (repeat' (first | ((first | (refine gsel_split (fun q' => ?_) (fun q' => ?_)<;>(have h':=q')<;>(try simp only [za1,za2,Ba,Bb,za3,ne_eq,za4,za5,za6,Ia,Ib,Ic,Ie,Da,Bc,Bh,Be,za7,za8] at h')<;>try (exfalso; omega)) | (have q':=trivial; first | refine callX_new (c1) rfl (by decide) ?_ | refine callY_new (c1) rfl ?_ | refine hE _ _ ret_ne ?_ | refine hE _ _ exit_ne ?_))<;>(try simp (disch:=first | omega | decide +kernel) only [q',go_sem,Qa,Qb,Qc,Qd,Qe,↓reduceIte,reduceCtorEq,Qf,Qg,Qh])<;>clear q') | refine hN _ ?_ ?_ Wk.kk | with_reducible refine And.intro ?_ ?_ | with_reducible omega | exact ok_ints | exact cells_ints | exact no_mem | with_reducible exact plain_ints | (refine le_maxLen ?_; omega) | (refine za9 ⟨?_,?_⟩) | (simp only [go_sem,Qc,Qb,zb1,zb2,forall_eq]; done)))
       all_goals (first | omega | assumption | rfl | exact absurd trivial ‹¬True›)
     | some p =>
       obtain ⟨a,r⟩:=p
       have he : endI s 0=(s.size : Int) - r.length:=by rw [endI,List.drop_zero,hp]
       rw [he] at c1
       cases r with
       | nil =>
         have hk : okS s=true:=by rw [okS,hp]; simp [h80]
         rw [hk]
         rw [List.length_nil] at c1
         refine Ctr.of (n:=18) (rs:=[.tmp 2]) Tryd.func98 rfl rfl Tryd.ntmps98 rfl rfl (by kernel_rfl) Tryd.checked.mixed ?_
         simp (disch:=first | omega | decide +kernel) only [go_sem,Qa,Qb,Qc,Qd,Qe,↓reduceIte,reduceCtorEq,Qf,Qg,Qh]
         (repeat' (first | ((first | (refine gsel_split (fun q' => ?_) (fun q' => ?_)<;>(have h':=q')<;>(try simp only [za1,za2,Ba,Bb,za3,ne_eq,za4,za5,za6,Ia,Ib,Ic,Ie,Da,Bc,Bh,Be,za7,za8] at h')<;>try (exfalso; omega)) | (have q':=trivial; first | refine callX_new (c1) rfl (by decide) ?_ | refine callY_new (c1) rfl ?_ | refine hE _ _ ret_ne ?_ | refine hE _ _ exit_ne ?_))<;>(try simp (disch:=first | omega | decide +kernel) only [q',go_sem,Qa,Qb,Qc,Qd,Qe,↓reduceIte,reduceCtorEq,Qf,Qg,Qh])<;>clear q') | refine hN _ ?_ ?_ Wk.kk | with_reducible refine And.intro ?_ ?_ | with_reducible omega | exact ok_ints | exact cells_ints | exact no_mem | with_reducible exact plain_ints | (refine le_maxLen ?_; omega) | (refine za9 ⟨?_,?_⟩) | (simp only [go_sem,Qc,Qb,zb1,zb2,forall_eq]; done)))
         all_goals (first | omega | assumption | rfl | exact absurd trivial ‹¬True› | (simp; done))
       | cons o r1 =>
         have hk : okS s=false:=by rw [okS,hp]; simp
         rw [hk]
         rw [List.length_cons] at c1
         refine Ctr.of (n:=18) (rs:=[.tmp 2]) Tryd.func98 rfl rfl Tryd.ntmps98 rfl rfl (by kernel_rfl) Tryd.checked.mixed ?_
         simp (disch:=first | omega | decide +kernel) only [go_sem,Qa,Qb,Qc,Qd,Qe,↓reduceIte,reduceCtorEq,Qf,Qg,Qh]
         (repeat' (first | ((first | (refine gsel_split (fun q' => ?_) (fun q' => ?_)<;>(have h':=q')<;>(try simp only [za1,za2,Ba,Bb,za3,ne_eq,za4,za5,za6,Ia,Ib,Ic,Ie,Da,Bc,Bh,Be,za7,za8] at h')<;>try (exfalso; omega)) | (have q':=trivial; first | refine callX_new (c1) rfl (by decide) ?_ | refine callY_new (c1) rfl ?_ | refine hE _ _ ret_ne ?_ | refine hE _ _ exit_ne ?_))<;>(try simp (disch:=first | omega | decide +kernel) only [q',go_sem,Qa,Qb,Qc,Qd,Qe,↓reduceIte,reduceCtorEq,Qf,Qg,Qh])<;>clear q') | refine hN _ ?_ ?_ Wk.kk | with_reducible refine And.intro ?_ ?_ | with_reducible omega | exact ok_ints | exact cells_ints | exact no_mem | with_reducible exact plain_ints | (refine le_maxLen ?_; omega) | (refine za9 ⟨?_,?_⟩) | (simp only [go_sem,Qc,Qb,zb1,zb2,forall_eq]; done)))
         all_goals (first | omega | assumption | rfl | exact absurd trivial ‹¬True› | (simp; omega))
 . have hk : okS s=false:=okS_long (by omega)
   rw [hk]
   refine Ctr.of (n:=18) (rs:=[.tmp 2]) Tryd.func98 rfl rfl Tryd.ntmps98 rfl rfl (by kernel_rfl) Tryd.checked.mixed ?_
   simp (disch:=first | omega | decide +kernel) only [go_sem,Qa,Qb,Qc,Qd,Qe,↓reduceIte,reduceCtorEq,Qf,Qg,Qh]
   (repeat' (first | ((first | (refine gsel_split (fun q' => ?_) (fun q' => ?_)<;>(have h':=q')<;>(try simp only [za1,za2,Ba,Bb,za3,ne_eq,za4,za5,za6,Ia,Ib,Ic,Ie,Da,Bc,Bh,Be,za7,za8] at h')<;>try (exfalso; omega)) | (have q':=trivial; first | refine callX_new (c1) rfl (by decide) ?_ | refine callY_new (c1) rfl ?_ | refine hE _ _ ret_ne ?_ | refine hE _ _ exit_ne ?_))<;>(try simp (disch:=first | omega | decide +kernel) only [q',go_sem,Qa,Qb,Qc,Qd,Qe,↓reduceIte,reduceCtorEq,Qf,Qg,Qh])<;>clear q') | refine hN _ ?_ ?_ Wk.kk | with_reducible refine And.intro ?_ ?_ | with_reducible omega | exact ok_ints | exact cells_ints | exact no_mem | with_reducible exact plain_ints | (refine le_maxLen ?_; omega) | (refine za9 ⟨?_,?_⟩) | (simp only [go_sem,Qc,Qb,zb1,zb2,forall_eq]; done)))
   all_goals (first | omega | assumption | rfl | exact absurd trivial ‹¬True›)
def Fm.op : Fm->UInt8
 | .lf c => c
 | .ng _ => 126
 | .jn o _ _ => o
def Fm.p1 : Fm->ByteArray
 | .lf _ => ⟨#[]⟩
 | .ng a => a.T
 | .jn _ a _ => a.T
def Fm.p2 : Fm->ByteArray
 | .lf _ => ⟨#[]⟩
 | .ng _ => ⟨#[]⟩
 | .jn _ _ b => b.T
theorem l22Letter_ok (x : Fm) (hw : x.wf=true) : Ctr Tryd.prog 99 [.str x.T] false (.d (.bool (match x with | .lf c => isLet c | _ => false))) []:=by
 cases x with
 | lf c =>
   have hz : (Fm.lf c).T.size=1:=rfl
   have e0 : (Fm.lf c).T.data.toList.getD 0 0=c:=rfl
   have t0 : Int.toNat 0=0:=rfl
   have h : isLet c=(decide (97<=(c.toNat : Int)) && decide ((c.toNat : Int)<=102)):=by
    unfold isLet
    rw [← Bool.decide_and]
    apply decide_eq_decide.2
    rw [UInt8.le_iff_toNat_le,UInt8.le_iff_toNat_le]
    have e1 : (97 : UInt8).toNat=97:=rfl
    have e2 : (102 : UInt8).toNat=102:=rfl
    omega
   show Ctr _ _ _ _ (.d (.bool (isLet c))) _
   rw [h]
   generalize (Fm.lf c).T=t at *
   refine Ctr.of (n:=16) (rs:=[.tmp 2]) Tryd.func99 rfl rfl Tryd.ntmps99 rfl rfl (by kernel_rfl) Tryd.checked.mixed ?_
   simp (disch:=first | omega | decide +kernel) only [hz,e0,t0,go_sem,Qa,Qb,Qc,Qd,Qe,↓reduceIte,reduceCtorEq,Qf,Qg,Qh]
   (repeat' (first | ((first | (refine gsel_split (fun q' => ?_) (fun q' => ?_)<;>(have h':=q')<;>(try simp only [za1,za2,Ba,Bb,za3,ne_eq,za4,za5,za6,Ia,Ib,Ic,Ie,Da,Bc,Bh,Be,za7,za8] at h')<;>try (exfalso; omega)) | (have q':=trivial; first | refine hE _ _ ret_ne ?_ | refine hE _ _ exit_ne ?_))<;>(try simp (disch:=first | omega | decide +kernel) only [q',hz,e0,t0,go_sem,Qa,Qb,Qc,Qd,Qe,↓reduceIte,reduceCtorEq,Qf,Qg,Qh])<;>clear q') | refine hN _ ?_ ?_ Wk.kk | with_reducible refine And.intro ?_ ?_ | with_reducible omega | exact ok_ints | exact cells_ints | exact no_mem | with_reducible exact plain_ints | (refine le_maxLen ?_; omega) | (refine za9 ⟨?_,?_⟩) | (simp only [go_sem,Qc,Qb,zb1,zb2,forall_eq]; done)))
   all_goals (first | omega | assumption | rfl | exact absurd trivial ‹¬True› | (congr 1; simp_all; done))
 | ng a =>
   have hz : (Fm.ng a).T.size=a.T.size + 1:=by simp only [size_BL,BL_T,Fm.tl,List.length_cons]
   have:=List.length_pos_iff.2 (tl_ne a)
   rw [← BL_T,← size_BL] at this
   generalize (Fm.ng a).T=t at *
   refine Ctr.of (n:=16) (rs:=[.tmp 2]) Tryd.func99 rfl rfl Tryd.ntmps99 rfl rfl (by kernel_rfl) Tryd.checked.mixed ?_
   simp (disch:=first | omega | decide +kernel) only [hz,go_sem,Qa,Qb,Qc,Qd,Qe,↓reduceIte,reduceCtorEq,Qf,Qg,Qh]
   (repeat' (first | ((first | (refine gsel_split (fun q' => ?_) (fun q' => ?_)<;>(have h':=q')<;>(try simp only [za1,za2,Ba,Bb,za3,ne_eq,za4,za5,za6,Ia,Ib,Ic,Ie,Da,Bc,Bh,Be,za7,za8] at h')<;>try (exfalso; omega)) | (have q':=trivial; first | refine hE _ _ ret_ne ?_ | refine hE _ _ exit_ne ?_))<;>(try simp (disch:=first | omega | decide +kernel) only [q',hz,go_sem,Qa,Qb,Qc,Qd,Qe,↓reduceIte,reduceCtorEq,Qf,Qg,Qh])<;>clear q') | refine hN _ ?_ ?_ Wk.kk | with_reducible refine And.intro ?_ ?_ | with_reducible omega | exact ok_ints | exact cells_ints | exact no_mem | with_reducible exact plain_ints | (refine le_maxLen ?_; omega) | (refine za9 ⟨?_,?_⟩) | (simp only [go_sem,Qc,Qb,zb1,zb2,forall_eq]; done)))
   all_goals (first | omega | assumption | rfl | exact absurd trivial ‹¬True›)
 | jn o a b =>
   have hz : (Fm.jn o a b).T.size=a.T.size + b.T.size + 3:=by simp only [size_BL,BL_T,Fm.tl,List.length_cons,List.length_append,List.length_nil]; omega
   generalize (Fm.jn o a b).T=t at *
   refine Ctr.of (n:=16) (rs:=[.tmp 2]) Tryd.func99 rfl rfl Tryd.ntmps99 rfl rfl (by kernel_rfl) Tryd.checked.mixed ?_
   simp (disch:=first | omega | decide +kernel) only [hz,go_sem,Qa,Qb,Qc,Qd,Qe,↓reduceIte,reduceCtorEq,Qf,Qg,Qh]
   (repeat' (first | ((first | (refine gsel_split (fun q' => ?_) (fun q' => ?_)<;>(have h':=q')<;>(try simp only [za1,za2,Ba,Bb,za3,ne_eq,za4,za5,za6,Ia,Ib,Ic,Ie,Da,Bc,Bh,Be,za7,za8] at h')<;>try (exfalso; omega)) | (have q':=trivial; first | refine hE _ _ ret_ne ?_ | refine hE _ _ exit_ne ?_))<;>(try simp (disch:=first | omega | decide +kernel) only [q',hz,go_sem,Qa,Qb,Qc,Qd,Qe,↓reduceIte,reduceCtorEq,Qf,Qg,Qh])<;>clear q') | refine hN _ ?_ ?_ Wk.kk | with_reducible refine And.intro ?_ ?_ | with_reducible omega | exact ok_ints | exact cells_ints | exact no_mem | with_reducible exact plain_ints | (refine le_maxLen ?_; omega) | (refine za9 ⟨?_,?_⟩) | (simp only [go_sem,Qc,Qb,zb1,zb2,forall_eq]; done)))
   all_goals (first | omega | assumption | rfl | exact absurd trivial ‹¬True›)
end Abs.Y

namespace Abs.Y
open Go Go.Proofs Abs
open Nat renaming reduceEqDiff -> Qa, reduceLT -> Qb, reduceAdd -> Qc, reduceMul -> Qd, reduceSub -> Qe, reduceLeDiff -> Qf, reduceSubDiff -> Qg, reduceBEq -> Qh
open Bool renaming not_eq_true' -> Ba, not_eq_false' -> Bb, and_eq_true -> Bc, or_eq_true -> Bh, or_eq_false_iff -> Be
open Int renaming ofNat_lt -> Ia, ofNat_le -> Ib, not_lt -> Ic, not_le -> Ie
open Decidable renaming not_not -> Da
set_option maxRecDepth 100000
set_option maxHeartbeats 1000000

def QT (n : Nat) (r : AV) : Prop:=∃ s : ByteArray,r=.d (.str s)∧s.size<=n
theorem ofL_ok {code : List Int} (hc : CodeOK code) (ss : List ByteArray) (n : Nat) (hl : 1<=ss.length∧ss.length<=60000) (hn : ∀ s ∈ ss,s.size<=n) :
 DrawsL 94 [.sl 1] 2 (.arr 9 1 (ss.map .str)) (QT n) code:=fun at_ seed h1 h2 h3 => by
 have c1:=pick_ok hc (ss.length : Nat) (by omega)
 have hei : ∀ x : Int,0<=x->x < ss.length->el (ss.map D.str) x.toNat=.str (ss.getD x.toNat ByteArray.empty):=fun x hx hl => el_map (f:=D.str) ByteArray.empty (by omega)
 have hm : ∀ x : Int,0<=x->x < ss.length->(ss.getD x.toNat ByteArray.empty).size<=n:=fun x hx hl => hn _ (getD_mem (by omega))
 refine CtrR.of (n:=12) (rs:=[.tmp 4]) Tryd.func94 rfl rfl Tryd.ntmps94 rfl rfl (by kernel_rfl) Tryd.checked.mixed ?_; intro u
 simp (disch:=first | omega | decide +kernel) only [curO,curB,D.bytes,go_sem,Qa,Qb,Qc,Qd,Qe,↓reduceIte,reduceCtorEq,Qf,Qg,Qh]
 (repeat' (first | ((first | (refine gsel_split (fun q' => ?_) (fun q' => ?_)<;>(have h':=q')<;>(try simp only [za1,za2,Ba,Bb,za3,ne_eq,za4,za5,za6,Ia,Ib,Ic,Ie,Da,Bc,Bh,Be,za7,za8] at h')<;>try (exfalso; omega)) | (have q':=trivial; first | (refine callX_draw _ (c1) ⟨.inl rfl,.inl rfl,trivial⟩ rfl (by simp [dstB]) (by omega) (by omega) (by omega) ?_; rintro _ at1 sd1 hat11 hat12 hsd11 hsd12 ⟨x1,rfl,hx1⟩) | refine hE _ _ ret_ne ?_ | refine hE _ _ exit_ne ?_))<;>(try simp (disch:=first | omega | decide +kernel) only [q',curO,curB,D.bytes,hei,List.length_map,go_sem,Qa,Qb,Qc,Qd,Qe,↓reduceIte,reduceCtorEq,Qf,Qg,Qh])<;>clear q') | refine hN _ ?_ ?_ Wk.kk | with_reducible refine And.intro ?_ ?_ | with_reducible omega | exact ok_ints | exact cells_ints | exact no_mem | with_reducible exact plain_ints | (refine le_maxLen ?_; omega) | (refine za9 ⟨?_,?_⟩) | (simp only [go_sem,Qc,Qb,zb1,zb2,forall_eq]; done)))
 all_goals (first | omega | (exact retR_drawL rfl rfl rfl rfl rfl rfl (by omega) (by omega) (by omega) (by omega) ⟨_,rfl,hm _ (by omega) (by omega)⟩))
theorem short24_ok {code : List Int} (hc : CodeOK code) : Draws 107 [] 2 (QT 5) code:=fun at_ seed h1 h2 h3 => by
 have c1:=ofL_ok hc [⟨#[97]⟩,⟨#[98]⟩,⟨#[99]⟩,⟨#[126,97]⟩,⟨#[40,97,62,98,41]⟩,⟨#[49]⟩,⟨#[48]⟩,⟨#[40,97,38,98,41]⟩,⟨#[97]⟩,⟨#[98]⟩] 5 (by decide) (by decide)
 simp only [List.map_cons,List.map_nil] at c1
 refine CtrR.of (n:=6) (rs:=[.tmp 2]) Tryd.func107 rfl rfl Tryd.ntmps107 rfl rfl (by kernel_rfl) Tryd.checked.mixed ?_; intro u
 simp (disch:=first | omega | decide +kernel) only [curO,curB,D.bytes,go_sem,Qa,Qb,Qc,Qd,Qe,↓reduceIte,reduceCtorEq,Qf,Qg,Qh]
 (repeat' (first | ((first | (refine gsel_split (fun q' => ?_) (fun q' => ?_)<;>(have h':=q')<;>(try simp only [za1,za2,Ba,Bb,za3,ne_eq,za4,za5,za6,Ia,Ib,Ic,Ie,Da,Bc,Bh,Be,za7,za8] at h')<;>try (exfalso; omega)) | (have q':=trivial; first | (refine callX_drawL _ _ (c1) ⟨.inl rfl,.inl rfl,trivial⟩ rfl rfl (by decide) (by simp [dstB]) (by omega) (by omega) (by omega) ?_; rintro _ at1 sd1 hat1 hat2 hsd1 hsd2 ⟨x1,rfl,hx1⟩) | refine hE _ _ ret_ne ?_ | refine hE _ _ exit_ne ?_))<;>(try simp (disch:=first | omega | decide +kernel) only [q',curO,curB,D.bytes,go_sem,Qa,Qb,Qc,Qd,Qe,↓reduceIte,reduceCtorEq,Qf,Qg,Qh])<;>clear q') | refine hN _ ?_ ?_ Wk.kk | with_reducible refine And.intro ?_ ?_ | with_reducible omega | exact ok_ints | exact cells_ints | exact no_mem | with_reducible exact plain_ints | (refine le_maxLen ?_; omega) | (refine za9 ⟨?_,?_⟩) | (simp only [go_sem,Qc,Qb,zb1,zb2,forall_eq]; done)))
 all_goals (first | omega | (exact retR_draw rfl rfl rfl (by omega) (by omega) (by omega) (by omega) ⟨_,rfl,by omega⟩))
end Abs.Y
