/- What functions of this program compute, over plain data. No condition. -/
import Derived.Test.YtiafnejjhnjbfaaGreatFO4
import Derived.Test.YtiafnejjhnjbfaaGreatFacts
set_option linter.all false
namespace Abs.Y
open Go Go.Proofs Abs
open Nat renaming reduceEqDiff -> Qa, reduceLT -> Qb, reduceAdd -> Qc, reduceMul -> Qd, reduceSub -> Qe, reduceLeDiff -> Qf, reduceSubDiff -> Qg, reduceBEq -> Qh
open Bool renaming not_eq_true' -> Ba, not_eq_false' -> Bb, and_eq_true -> Bc, or_eq_true -> Bh, or_eq_false_iff -> Be
open Int renaming ofNat_lt -> Ia, ofNat_le -> Ib, not_lt -> Ic, not_le -> Ie
open Decidable renaming not_not -> Da
set_option maxRecDepth 100000

theorem fmD_sh (a : Fm) : ∃ (c : Int) (x y : D),fmD a=.ptr (.agg [.int .u8 c,x,y,.str a.T]):=by cases a<;>exact ⟨_,_,_,rfl⟩
theorem fmD_na (a : Fm) : (fmD a).isAgg=false:=by obtain ⟨c,x,y,h⟩:=fmD_sh a; rw [h]; rfl
theorem fmD_nc (a : Fm) : (fmD a).cells.length=1:=by obtain ⟨c,x,y,h⟩:=fmD_sh a; rw [h]; rfl
noncomputable def parD (s : ByteArray) : D:=if okS s then fmD (fmS s) else .nilptr
theorem okS_long {s : ByteArray} (h : 80 < s.size) : okS s=false:=by rw [okS,decide_eq_false (by omega)]; rfl
theorem parse_okN (s : ByteArray) (hs : s.size<=1000000) : ∃ x,(okS s=true->x=fmD (fmS s))∧(x=.nilptr∨∃ a,x=fmD a)∧Ctr Tryz.prog 21 [.str s] true (.tup [.d x,.d (.bool (okS s))]) []:=by
 by_cases hl : 80 < s.size
 . refine ⟨.nilptr,fun h => absurd h (by rw [okS_long hl]; simp),.inl rfl,?_⟩
   rw [okS_long hl]
   refine Ctr.of (n:=23) (rs:=[.tmp 2,.tmp 3]) Tryz.func21 rfl rfl Tryz.ntmps21 rfl rfl (by kernel_rfl) Tryz.checked.mixed ?_
   simp (disch:=first | omega | decide +kernel) only [go_sem,Qa,Qb,Qc,Qd,Qe,↓reduceIte,reduceCtorEq,Qf,Qg,Qh]
   (repeat' (first | ((first | (refine gsel_split (fun q' => ?_) (fun q' => ?_)<;>(have h':=q')<;>(try simp only [za1,za2,Ba,Bb,za3,ne_eq,za4,za5,za6,Ia,Ib,Ic,Ie,Da,Bc,Bh,Be,za7,za8] at h')<;>try (exfalso; omega)) | (have q':=trivial; first | refine hE _ _ ret_ne ?_ | refine hE _ _ exit_ne ?_))<;>(try simp (disch:=first | omega | decide +kernel) only [q',go_sem,Qa,Qb,Qc,Qd,Qe,↓reduceIte,reduceCtorEq,Qf,Qg,Qh])<;>clear q') | refine hN _ ?_ ?_ Wk.kk | with_reducible refine And.intro ?_ ?_ | with_reducible omega | exact ok_ints | exact cells_ints | exact no_mem | with_reducible exact plain_ints | (refine le_maxLen ?_; omega) | (refine za9 ⟨?_,?_⟩) | (simp only [go_sem,Qc,Qb,zb1,zb2,forall_eq]; done)))
   all_goals (first | omega | exact absurd trivial ‹¬True› | exact ret_s2 [] rfl rfl)
 . have c:=Ctr.tupN (parseFrom_ok _ s (Nat.le_refl _) hs)
   cases h : prs (BL s) with
   | none =>
     have hk : okS s=false:=by rw [okS,h]; simp
     refine ⟨.nilptr,fun h => absurd h (by rw [hk]; simp),.inl rfl,?_⟩
     rw [hk]
     rw [h] at c
     simp only [resL] at c
     refine Ctr.of (n:=23) (rs:=[.tmp 2,.tmp 3]) Tryz.func21 rfl rfl Tryz.ntmps21 rfl rfl (by kernel_rfl) Tryz.checked.mixed ?_
     simp (disch:=first | omega | decide +kernel) only [go_sem,Qa,Qb,Qc,Qd,Qe,↓reduceIte,reduceCtorEq,Qf,Qg,Qh]
     (repeat' (first | ((first | (refine gsel_split (fun q' => ?_) (fun q' => ?_)<;>(have h':=q')<;>(try simp only [za1,za2,Ba,Bb,za3,ne_eq,za4,za5,za6,Ia,Ib,Ic,Ie,Da,Bc,Bh,Be,za7,za8] at h')<;>try (exfalso; omega)) | (have q':=trivial; first | refine callX_shared (c) rfl (by decide) ?_ | refine callY_shared (c) rfl ?_ | refine hE _ _ ret_ne ?_ | refine hE _ _ exit_ne ?_))<;>(try simp (disch:=first | omega | decide +kernel) only [q',go_sem,Qa,Qb,Qc,Qd,Qe,↓reduceIte,reduceCtorEq,Qf,Qg,Qh])<;>clear q') | refine hN _ ?_ ?_ Wk.kk | with_reducible refine And.intro ?_ ?_ | with_reducible omega | exact ok_ints | exact cells_ints | exact no_mem | with_reducible exact plain_ints | (refine le_maxLen ?_; omega) | (refine za9 ⟨?_,?_⟩) | (simp only [go_sem,Qc,Qb,zb1,zb2,forall_eq]; done)))
     all_goals (first | omega | exact absurd trivial ‹¬True› | exact ret_s2 [] rfl rfl)
   | some p =>
     obtain ⟨a,r⟩:=p
     rw [h] at c
     simp only [resL] at c
     cases r with
     | nil =>
       have hk : okS s=true:=by rw [okS,h]; simp; omega
       have hf : fmS s=a:=by rw [fmS,h]; rfl
       refine ⟨fmD a,fun _ => by rw [hf],.inr ⟨a,rfl⟩,?_⟩
       rw [hk]
       generalize fmD a=x at *
       refine Ctr.of (n:=23) (rs:=[.tmp 2,.tmp 3]) Tryz.func21 rfl rfl Tryz.ntmps21 rfl rfl (by kernel_rfl) Tryz.checked.mixed ?_
       simp (disch:=first | omega | decide +kernel) only [beq_self_eq_true,go_sem,Qa,Qb,Qc,Qd,Qe,↓reduceIte,reduceCtorEq,Qf,Qg,Qh]
       (repeat' (first | ((first | (refine gsel_split (fun q' => ?_) (fun q' => ?_)<;>(have h':=q')<;>(try simp only [za1,za2,Ba,Bb,za3,ne_eq,za4,za5,za6,Ia,Ib,Ic,Ie,Da,Bc,Bh,Be,za7,za8] at h')<;>try (exfalso; omega)) | (have q':=trivial; first | refine callX_shared (c) rfl (by decide) ?_ | refine callY_shared (c) rfl ?_ | refine hE _ _ ret_ne ?_ | refine hE _ _ exit_ne ?_))<;>(try simp (disch:=first | omega | decide +kernel) only [q',beq_self_eq_true,go_sem,Qa,Qb,Qc,Qd,Qe,↓reduceIte,reduceCtorEq,Qf,Qg,Qh])<;>clear q') | refine hN _ ?_ ?_ Wk.kk | with_reducible refine And.intro ?_ ?_ | with_reducible omega | exact ok_ints | exact cells_ints | exact no_mem | with_reducible exact plain_ints | (refine le_maxLen ?_; omega) | (refine za9 ⟨?_,?_⟩) | (simp only [go_sem,Qc,Qb,zb1,zb2,forall_eq]; done)))
       all_goals (first | omega | exact absurd trivial ‹¬True› | exact ret_s2 [] rfl rfl)
     | cons o r1 =>
       have hk : okS s=false:=by rw [okS,h]; simp
       refine ⟨.nilptr,fun h => absurd h (by rw [hk]; simp),.inl rfl,?_⟩
       rw [hk]
       obtain ⟨t,ht⟩ : ∃ t : ByteArray,t=⟨(o :: r1).toArray⟩:=⟨_,rfl⟩
       have fn:=ne_emp (show BL t=o :: r1 by rw [ht])
       rw [← ht] at c
       generalize fmD a=x at *
       refine Ctr.of (n:=23) (rs:=[.tmp 2,.tmp 3]) Tryz.func21 rfl rfl Tryz.ntmps21 rfl rfl (by kernel_rfl) Tryz.checked.mixed ?_
       simp (disch:=first | omega | decide +kernel) only [fn,go_sem,Qa,Qb,Qc,Qd,Qe,↓reduceIte,reduceCtorEq,Qf,Qg,Qh]
       (repeat' (first | ((first | (refine gsel_split (fun q' => ?_) (fun q' => ?_)<;>(have h':=q')<;>(try simp only [za1,za2,Ba,Bb,za3,ne_eq,za4,za5,za6,Ia,Ib,Ic,Ie,Da,Bc,Bh,Be,za7,za8] at h')<;>try (exfalso; omega)) | (have q':=trivial; first | refine callX_shared (c) rfl (by decide) ?_ | refine callY_shared (c) rfl ?_ | refine hE _ _ ret_ne ?_ | refine hE _ _ exit_ne ?_))<;>(try simp (disch:=first | omega | decide +kernel) only [q',fn,go_sem,Qa,Qb,Qc,Qd,Qe,↓reduceIte,reduceCtorEq,Qf,Qg,Qh])<;>clear q') | refine hN _ ?_ ?_ Wk.kk | with_reducible refine And.intro ?_ ?_ | with_reducible omega | exact ok_ints | exact cells_ints | exact no_mem | with_reducible exact plain_ints | (refine le_maxLen ?_; omega) | (refine za9 ⟨?_,?_⟩) | (simp only [go_sem,Qc,Qb,zb1,zb2,forall_eq]; done)))
       all_goals (first | omega | exact absurd trivial ‹¬True› | exact ret_s2 [] rfl rfl)
theorem parse_ok (s : ByteArray) (hs : s.size<=1000000) : ∃ x,(okS s=true->x=fmD (fmS s))∧Ctr Tryz.prog 21 [.str s] true (.tup [.d x,.d (.bool (okS s))]) [] :=
 let ⟨x,h,_,c⟩:=parse_okN s hs
 ⟨x,h,c⟩
theorem shown_ok (a : Fm) : Ctr Tryz.prog 23 [fmD a] false (.tup [.d (.str (if a.T.size<=80 then a.T else ⟨#[]⟩)),.d (.bool (decide (a.T.size<=80)))]) []:=by
 obtain ⟨c,x,y,h⟩:=fmD_sh a
 rw [h]
 generalize a.T=t at *
 by_cases hl : t.size<=80
 . rw [if_pos hl,decide_eq_true hl]
   refine Ctr.of (n:=14) (rs:=[.tmp 2,.tmp 3]) Tryz.func23 rfl rfl Tryz.ntmps23 rfl rfl (by kernel_rfl) Tryz.checked.mixed ?_
   simp (disch:=first | omega | decide +kernel) only [go_sem,Qa,Qb,Qc,Qd,Qe,↓reduceIte,reduceCtorEq,Qf,Qg,Qh]
   (repeat' (first | ((first | (refine gsel_split (fun q' => ?_) (fun q' => ?_)<;>(have h':=q')<;>(try simp only [za1,za2,Ba,Bb,za3,ne_eq,za4,za5,za6,Ia,Ib,Ic,Ie,Da,Bc,Bh,Be,za7,za8] at h')<;>try (exfalso; omega)) | (have q':=trivial; first | refine hE _ _ ret_ne ?_ | refine hE _ _ exit_ne ?_))<;>(try simp (disch:=first | omega | decide +kernel) only [q',go_sem,Qa,Qb,Qc,Qd,Qe,↓reduceIte,reduceCtorEq,Qf,Qg,Qh])<;>clear q') | refine hN _ ?_ ?_ Wk.kk | with_reducible refine And.intro ?_ ?_ | with_reducible omega | exact ok_ints | exact cells_ints | exact no_mem | with_reducible exact plain_ints | (refine le_maxLen ?_; omega) | (refine za9 ⟨?_,?_⟩) | (simp only [go_sem,Qc,Qb,zb1,zb2,forall_eq]; done)))
   all_goals (first | omega | exact absurd trivial ‹¬True›)
 . rw [if_neg hl,decide_eq_false hl]
   refine Ctr.of (n:=14) (rs:=[.tmp 2,.tmp 3]) Tryz.func23 rfl rfl Tryz.ntmps23 rfl rfl (by kernel_rfl) Tryz.checked.mixed ?_
   simp (disch:=first | omega | decide +kernel) only [go_sem,Qa,Qb,Qc,Qd,Qe,↓reduceIte,reduceCtorEq,Qf,Qg,Qh]
   (repeat' (first | ((first | (refine gsel_split (fun q' => ?_) (fun q' => ?_)<;>(have h':=q')<;>(try simp only [za1,za2,Ba,Bb,za3,ne_eq,za4,za5,za6,Ia,Ib,Ic,Ie,Da,Bc,Bh,Be,za7,za8] at h')<;>try (exfalso; omega)) | (have q':=trivial; first | refine hE _ _ ret_ne ?_ | refine hE _ _ exit_ne ?_))<;>(try simp (disch:=first | omega | decide +kernel) only [q',go_sem,Qa,Qb,Qc,Qd,Qe,↓reduceIte,reduceCtorEq,Qf,Qg,Qh])<;>clear q') | refine hN _ ?_ ?_ Wk.kk | with_reducible refine And.intro ?_ ?_ | with_reducible omega | exact ok_ints | exact cells_ints | exact no_mem | with_reducible exact plain_ints | (refine le_maxLen ?_; omega) | (refine za9 ⟨?_,?_⟩) | (simp only [go_sem,Qc,Qb,zb1,zb2,forall_eq]; done)))
   all_goals (first | omega | exact absurd trivial ‹¬True›)
theorem bit_w : ∀ m : Nat,m < 64->∀ d,d < 6->(bitV .and .i64 ((m : Int).fdiv (2 ^ min d 64)) 1 == 1)=Nat.testBit m d:=by decide +kernel
set_option maxHeartbeats 8000000 in
theorem value_ok (m : Nat) (hm : m < 64) : ∀ x : Fm,x.wf=true->Ctr Tryz.prog 33 [fmD x,.int .i64 m] false (.d (.bool (x.vl (bitF m)))) []
 | .lf c, hw => by
   unfold fmD
   rw [Fm.vl]
   by_cases h0 : c=48
   . rw [if_pos h0,h0]
     generalize (Fm.lf 48).T=t at *
     have e : ((48 : UInt8).toNat : Int)=48:=rfl
     rw [e]
     refine Ctr.of (n:=84) (rs:=[.tmp 4]) Tryz.func33 rfl rfl Tryz.ntmps33 rfl rfl (by kernel_rfl) Tryz.checked.mixed ?_
     simp (disch:=first | omega | decide +kernel) only [go_sem,Qa,Qb,Qc,Qd,Qe,↓reduceIte,reduceCtorEq,Qf,Qg,Qh]
     (repeat' (first | ((first | (refine gsel_split (fun q' => ?_) (fun q' => ?_)<;>(have h':=q')<;>(try simp only [za1,za2,Ba,Bb,za3,ne_eq,za4,za5,za6,Ia,Ib,Ic,Ie,Da,Bc,Bh,Be,za7,za8] at h')<;>try (exfalso; omega)) | (have q':=trivial; first | refine hE _ _ ret_ne ?_ | refine hE _ _ exit_ne ?_))<;>(try simp (disch:=first | omega | decide +kernel) only [q',go_sem,Qa,Qb,Qc,Qd,Qe,↓reduceIte,reduceCtorEq,Qf,Qg,Qh])<;>clear q') | refine hN _ ?_ ?_ Wk.kk | with_reducible refine And.intro ?_ ?_ | with_reducible omega | exact ok_ints | exact cells_ints | exact no_mem | with_reducible exact plain_ints | (refine le_maxLen ?_; omega) | (refine za9 ⟨?_,?_⟩) | (simp only [go_sem,Qc,Qb,zb1,zb2,forall_eq]; done)))
     all_goals (first | omega | assumption | exact absurd trivial ‹¬True› | exact congrArg D.bool (by decide))
   . rw [if_neg h0]
     have h0 : ¬ (c.toNat : Int)=48:=fun h => h0 (toN_eq.1 h)
     by_cases h1 : c=49
     . rw [if_pos h1,h1]
       generalize (Fm.lf 49).T=t at *
       have e : ((49 : UInt8).toNat : Int)=49:=rfl
       rw [e]
       refine Ctr.of (n:=84) (rs:=[.tmp 4]) Tryz.func33 rfl rfl Tryz.ntmps33 rfl rfl (by kernel_rfl) Tryz.checked.mixed ?_
       simp (disch:=first | omega | decide +kernel) only [go_sem,Qa,Qb,Qc,Qd,Qe,↓reduceIte,reduceCtorEq,Qf,Qg,Qh]
       (repeat' (first | ((first | (refine gsel_split (fun q' => ?_) (fun q' => ?_)<;>(have h':=q')<;>(try simp only [za1,za2,Ba,Bb,za3,ne_eq,za4,za5,za6,Ia,Ib,Ic,Ie,Da,Bc,Bh,Be,za7,za8] at h')<;>try (exfalso; omega)) | (have q':=trivial; first | refine hE _ _ ret_ne ?_ | refine hE _ _ exit_ne ?_))<;>(try simp (disch:=first | omega | decide +kernel) only [q',go_sem,Qa,Qb,Qc,Qd,Qe,↓reduceIte,reduceCtorEq,Qf,Qg,Qh])<;>clear q') | refine hN _ ?_ ?_ Wk.kk | with_reducible refine And.intro ?_ ?_ | with_reducible omega | exact ok_ints | exact cells_ints | exact no_mem | with_reducible exact plain_ints | (refine le_maxLen ?_; omega) | (refine za9 ⟨?_,?_⟩) | (simp only [go_sem,Qc,Qb,zb1,zb2,forall_eq]; done)))
       all_goals (first | omega | assumption | exact absurd trivial ‹¬True› | exact congrArg D.bool (by decide))
     . rw [if_neg h1]
       have h1 : ¬ (c.toNat : Int)=49:=fun h => h1 (toN_eq.1 h)
       have hl : 97<=c.toNat∧c.toNat<=102:=by
        have h2 : isLet c=true:=by
         have h2 : isLf c=true:=hw
         rw [isLf,Bh,decide_eq_true_eq] at h2
         rcases h2 with (h2 | h2) | h2
         . subst h2; exact absurd rfl h0
         . subst h2; exact absurd rfl h1
         . exact h2
        have h3:=of_decide_eq_true h2
        rw [UInt8.le_iff_toNat_le,UInt8.le_iff_toNat_le] at h3
        exact h3
       have hwr : IntKind.u8.wrap ((c.toNat : Int) - 97)=((c.toNat - 97 : Nat) : Int):=by
        rw [show (c.toNat : Int) - 97=((c.toNat - 97 : Nat) : Int) by omega]
        have : ∀ d,d < 6->IntKind.u8.wrap ((d : Nat) : Int)=(d : Nat):=by decide
        exact this _ (by omega)
       have hbt:=bit_w m hm (c.toNat - 97) (by omega)
       have hd : (0 : Int)<=((c.toNat - 97 : Nat) : Int):=by omega
       rw [bitF]
       generalize (Fm.lf c).T=t at *
       have g1 : ¬ (c.toNat : Int)=126:=by omega
       have g2 : ¬ (c.toNat : Int)=38:=by omega
       have g3 : ¬ (c.toNat : Int)=124:=by omega
       have g4 : ¬ (c.toNat : Int)=62:=by omega
       generalize (c.toNat - 97)=d at *
       have hb : IntKind.i64.bits=64:=rfl
       refine Ctr.of (n:=84) (rs:=[.tmp 4]) Tryz.func33 rfl rfl Tryz.ntmps33 rfl rfl (by kernel_rfl) Tryz.checked.mixed ?_
       simp (disch:=first | omega | decide +kernel) only [h0,h1,g1,g2,g3,g4,hwr,hbt,hb,go_sem,Qa,Qb,Qc,Qd,Qe,↓reduceIte,reduceCtorEq,Qf,Qg,Qh]
       (repeat' (first | ((first | (refine gsel_split (fun q' => ?_) (fun q' => ?_)<;>(have h':=q')<;>(try simp only [za1,za2,Ba,Bb,za3,ne_eq,za4,za5,za6,Ia,Ib,Ic,Ie,Da,Bc,Bh,Be,za7,za8] at h')<;>try (exfalso; omega)) | (have q':=trivial; first | refine hE _ _ ret_ne ?_ | refine hE _ _ exit_ne ?_))<;>(try simp (disch:=first | omega | decide +kernel) only [q',h0,h1,g1,g2,g3,g4,hwr,hbt,hb,go_sem,Qa,Qb,Qc,Qd,Qe,↓reduceIte,reduceCtorEq,Qf,Qg,Qh])<;>clear q') | refine hN _ ?_ ?_ Wk.kk | with_reducible refine And.intro ?_ ?_ | with_reducible omega | exact ok_ints | exact cells_ints | exact no_mem | with_reducible exact plain_ints | (refine le_maxLen ?_; omega) | (refine za9 ⟨?_,?_⟩) | (simp only [go_sem,Qc,Qb,zb1,zb2,forall_eq]; done)))
       all_goals (first | omega | assumption | exact absurd trivial ‹¬True› | exact congrArg D.bool (by decide))
 | .ng a, hw => by
   have c:=value_ok m hm a hw
   have n1:=fmD_na a
   have n2:=fmD_nc a
   rw [fmD,Fm.vl]
   generalize (Fm.ng a).T=t at *
   generalize fmD a=x at *
   generalize a.vl (bitF m)=b at *
   refine Ctr.of (n:=84) (rs:=[.tmp 4]) Tryz.func33 rfl rfl Tryz.ntmps33 rfl rfl (by kernel_rfl) Tryz.checked.mixed ?_
   simp (disch:=first | omega | decide +kernel) only [go_sem,Qa,Qb,Qc,Qd,Qe,↓reduceIte,reduceCtorEq,Qf,Qg,Qh]
   (repeat' (first | ((first | (refine gsel_split (fun q' => ?_) (fun q' => ?_)<;>(have h':=q')<;>(try simp only [za1,za2,Ba,Bb,za3,ne_eq,za4,za5,za6,Ia,Ib,Ic,Ie,Da,Bc,Bh,Be,za7,za8] at h')<;>try (exfalso; omega)) | (have q':=trivial; first | refine callX_new (c) rfl (by decide) ?_ | refine callY_new (c) rfl ?_ | refine hE _ _ ret_ne ?_ | refine hE _ _ exit_ne ?_))<;>(try simp (disch:=first | omega | decide +kernel) only [q',go_sem,Qa,Qb,Qc,Qd,Qe,↓reduceIte,reduceCtorEq,Qf,Qg,Qh])<;>clear q') | refine hN _ ?_ ?_ Wk.kk | with_reducible refine And.intro ?_ ?_ | with_reducible omega | exact ok_ints | exact cells_ints | exact no_mem | with_reducible exact plain_ints | (refine le_maxLen ?_; omega) | (refine za9 ⟨?_,?_⟩) | (simp only [go_sem,Qc,Qb,zb1,zb2,forall_eq]; done)))
   all_goals (first | omega | assumption | exact absurd trivial ‹¬True› | exact congrArg D.bool (by decide))
 | .jn o a b, hw => by
   have hw' : (isOp o && a.wf && b.wf)=true:=hw
   simp only [Bc] at hw'
   have c:=value_ok m hm a hw'.1.2
   have c':=value_ok m hm b hw'.2
   have ho:=of_decide_eq_true hw'.1.1
   have n1:=fmD_na a
   have n2:=fmD_nc a
   have m1:=fmD_na b
   have m2:=fmD_nc b
   rw [fmD,Fm.vl]
   generalize (Fm.jn o a b).T=t at *
   generalize fmD a=x at *
   generalize fmD b=y at *
   generalize a.vl (bitF m)=p at *
   generalize b.vl (bitF m)=q at *
   rcases ho with rfl | rfl | rfl
   . rw [if_pos rfl,show ((38 : UInt8).toNat : Int)=38 from rfl]
     cases p <;>
     . refine Ctr.of (n:=84) (rs:=[.tmp 4]) Tryz.func33 rfl rfl Tryz.ntmps33 rfl rfl (by kernel_rfl) Tryz.checked.mixed ?_
       simp (disch:=first | omega | decide +kernel) only [Bool.true_and,Bool.false_and,go_sem,Qa,Qb,Qc,Qd,Qe,↓reduceIte,reduceCtorEq,Qf,Qg,Qh]
       (repeat' (first | ((first | (refine gsel_split (fun q' => ?_) (fun q' => ?_)<;>(have h':=q')<;>(try simp only [za1,za2,Ba,Bb,za3,ne_eq,za4,za5,za6,Ia,Ib,Ic,Ie,Da,Bc,Bh,Be,za7,za8] at h')<;>try (exfalso; omega)) | (have q':=trivial; first | refine callX_new (c) rfl (by decide) ?_ | refine callY_new (c) rfl ?_ | refine callX_new (c') rfl (by decide) ?_ | refine callY_new (c') rfl ?_ | refine hE _ _ ret_ne ?_ | refine hE _ _ exit_ne ?_))<;>(try simp (disch:=first | omega | decide +kernel) only [q',Bool.true_and,Bool.false_and,go_sem,Qa,Qb,Qc,Qd,Qe,↓reduceIte,reduceCtorEq,Qf,Qg,Qh])<;>clear q') | refine hN _ ?_ ?_ Wk.kk | with_reducible refine And.intro ?_ ?_ | with_reducible omega | exact ok_ints | exact cells_ints | exact no_mem | with_reducible exact plain_ints | (refine le_maxLen ?_; omega) | (refine za9 ⟨?_,?_⟩) | (simp only [go_sem,Qc,Qb,zb1,zb2,forall_eq]; done)))
       all_goals (first | omega | assumption | exact absurd trivial ‹¬True› | exact congrArg D.bool (by decide))
   . rw [if_neg (by decide),if_pos rfl,show ((124 : UInt8).toNat : Int)=124 from rfl]
     cases p <;>
     . refine Ctr.of (n:=84) (rs:=[.tmp 4]) Tryz.func33 rfl rfl Tryz.ntmps33 rfl rfl (by kernel_rfl) Tryz.checked.mixed ?_
       simp (disch:=first | omega | decide +kernel) only [Bool.true_or,Bool.false_or,go_sem,Qa,Qb,Qc,Qd,Qe,↓reduceIte,reduceCtorEq,Qf,Qg,Qh]
       (repeat' (first | ((first | (refine gsel_split (fun q' => ?_) (fun q' => ?_)<;>(have h':=q')<;>(try simp only [za1,za2,Ba,Bb,za3,ne_eq,za4,za5,za6,Ia,Ib,Ic,Ie,Da,Bc,Bh,Be,za7,za8] at h')<;>try (exfalso; omega)) | (have q':=trivial; first | refine callX_new (c) rfl (by decide) ?_ | refine callY_new (c) rfl ?_ | refine callX_new (c') rfl (by decide) ?_ | refine callY_new (c') rfl ?_ | refine hE _ _ ret_ne ?_ | refine hE _ _ exit_ne ?_))<;>(try simp (disch:=first | omega | decide +kernel) only [q',Bool.true_or,Bool.false_or,go_sem,Qa,Qb,Qc,Qd,Qe,↓reduceIte,reduceCtorEq,Qf,Qg,Qh])<;>clear q') | refine hN _ ?_ ?_ Wk.kk | with_reducible refine And.intro ?_ ?_ | with_reducible omega | exact ok_ints | exact cells_ints | exact no_mem | with_reducible exact plain_ints | (refine le_maxLen ?_; omega) | (refine za9 ⟨?_,?_⟩) | (simp only [go_sem,Qc,Qb,zb1,zb2,forall_eq]; done)))
       all_goals (first | omega | assumption | exact absurd trivial ‹¬True› | exact congrArg D.bool (by decide))
   . rw [if_neg (by decide),if_neg (by decide),show ((62 : UInt8).toNat : Int)=62 from rfl]
     cases p <;>
     . refine Ctr.of (n:=84) (rs:=[.tmp 4]) Tryz.func33 rfl rfl Tryz.ntmps33 rfl rfl (by kernel_rfl) Tryz.checked.mixed ?_
       simp (disch:=first | omega | decide +kernel) only [Bool.not_true,Bool.not_false,Bool.true_or,Bool.false_or,go_sem,Qa,Qb,Qc,Qd,Qe,↓reduceIte,reduceCtorEq,Qf,Qg,Qh]
       (repeat' (first | ((first | (refine gsel_split (fun q' => ?_) (fun q' => ?_)<;>(have h':=q')<;>(try simp only [za1,za2,Ba,Bb,za3,ne_eq,za4,za5,za6,Ia,Ib,Ic,Ie,Da,Bc,Bh,Be,za7,za8] at h')<;>try (exfalso; omega)) | (have q':=trivial; first | refine callX_new (c) rfl (by decide) ?_ | refine callY_new (c) rfl ?_ | refine callX_new (c') rfl (by decide) ?_ | refine callY_new (c') rfl ?_ | refine hE _ _ ret_ne ?_ | refine hE _ _ exit_ne ?_))<;>(try simp (disch:=first | omega | decide +kernel) only [q',Bool.not_true,Bool.not_false,Bool.true_or,Bool.false_or,go_sem,Qa,Qb,Qc,Qd,Qe,↓reduceIte,reduceCtorEq,Qf,Qg,Qh])<;>clear q') | refine hN _ ?_ ?_ Wk.kk | with_reducible refine And.intro ?_ ?_ | with_reducible omega | exact ok_ints | exact cells_ints | exact no_mem | with_reducible exact plain_ints | (refine le_maxLen ?_; omega) | (refine za9 ⟨?_,?_⟩) | (simp only [go_sem,Qc,Qb,zb1,zb2,forall_eq]; done)))
       all_goals (first | omega | assumption | exact absurd trivial ‹¬True› | exact congrArg D.bool (by decide))
end Abs.Y

namespace Abs.Y
open Go Go.Proofs Abs
open Nat renaming reduceEqDiff -> Qa, reduceLT -> Qb, reduceAdd -> Qc, reduceMul -> Qd, reduceSub -> Qe, reduceLeDiff -> Qf, reduceSubDiff -> Qg, reduceBEq -> Qh
open Bool renaming not_eq_true' -> Ba, not_eq_false' -> Bb, and_eq_true -> Bc, or_eq_true -> Bh, or_eq_false_iff -> Be
open Int renaming ofNat_lt -> Ia, ofNat_le -> Ib, not_lt -> Ic, not_le -> Ie
open Decidable renaming not_not -> Da
set_option maxRecDepth 100000

def f3 (a b c : Fm) (d : UInt8) : Fm:=if d=97 then a else if d=98 then b else c
theorem size_ng (a : Fm) : (Fm.ng a).T.size=a.T.size + 1:=by simp only [size_BL,BL_T,Fm.tl,List.length_cons]
theorem size_jn (o : UInt8) (a b : Fm) : (Fm.jn o a b).T.size=a.T.size + b.T.size + 3:=by simp only [size_BL,BL_T,Fm.tl,List.length_cons,List.length_append,List.length_nil]; omega
theorem fm_g0 (A : Fm) : (fmD A).cells.getD 0 .nilptr=fmD A:=by
 obtain ⟨_,_,_,e⟩:=fmD_sh A
 rw [e]; rfl
theorem isp : isPtrT Tryz.prog 36=true:=by kernel_rfl
end Abs.Y

namespace Abs.Y
open Go Go.Proofs Abs
open Nat renaming reduceEqDiff -> Qa, reduceLT -> Qb, reduceAdd -> Qc, reduceMul -> Qd, reduceSub -> Qe, reduceLeDiff -> Qf, reduceSubDiff -> Qg, reduceBEq -> Qh
open Bool renaming not_eq_true' -> Ba, not_eq_false' -> Bb, and_eq_true -> Bc, or_eq_true -> Bh, or_eq_false_iff -> Be
open Int renaming ofNat_lt -> Ia, ofNat_le -> Ib, not_lt -> Ic, not_le -> Ie
open Decidable renaming not_not -> Da
set_option maxRecDepth 100000

def Fm.sg : Bool->Fm->Fm
 | p,.lf c => if c=48∨c=49 then (if p then .lf c else .lf (97 - c)) else (if p then .lf c else .ng (.lf c))
 | p,.ng a => a.sg (!p)
 | p,.jn o a b => if o=62 then (if p then .jn 124 (a.sg false) (b.sg true) else .jn 38 (a.sg true) (b.sg false)) else .jn (if p then o else 162 - o) (a.sg p) (b.sg p)
theorem sg_wf : ∀ (x : Fm) (p : Bool),x.wf=true->(x.sg p).wf=true
 | .lf c, p, h => by
   rw [Fm.sg]
   split
   . rename_i hc
     rcases hc with rfl | rfl<;>cases p<;>rfl
   . cases p
     . exact h
     . exact h
 | .ng a,p,h => by rw [Fm.sg]; exact sg_wf a _ h
 | .jn o a b, p, h => by
   have h' : (isOp o && a.wf && b.wf)=true:=h
   simp only [Bc] at h'
   rw [Fm.sg]
   split
   . cases p
     . simp only [Bool.false_eq_true,if_false,Fm.wf,sg_wf a _ h'.1.2,sg_wf b _ h'.2,Bool.and_true]; rfl
     . simp only [if_true,Fm.wf,sg_wf a _ h'.1.2,sg_wf b _ h'.2,Bool.and_true]; rfl
   . rename_i h62
     have ho : o=38∨o=124:=by
      rcases of_decide_eq_true h'.1.1 with e | e | e
      . exact .inl e
      . exact .inr e
      . exact absurd e h62
     simp only [Fm.wf,sg_wf a _ h'.1.2,sg_wf b _ h'.2,Bool.and_true]
     rcases ho with rfl | rfl<;>cases p<;>rfl
theorem sg_vl (v : UInt8->Bool) : ∀ (x : Fm) (p : Bool),x.wf=true->(x.sg p).vl v=(if p then x.vl v else !x.vl v)
 | .lf c, p, h => by
   rw [Fm.sg]
   split
   . rename_i hc
     rcases hc with rfl | rfl<;>cases p<;>rfl
   . cases p
     . rfl
     . rfl
 | .ng a, p, h => by
   rw [Fm.sg,sg_vl v a _ h,Fm.vl]
   cases p
   . simp
   . simp
 | .jn o a b, p, h => by
   have h' : (isOp o && a.wf && b.wf)=true:=h
   simp only [Bc] at h'
   rw [Fm.sg]
   split
   . rename_i h62
     subst h62
     cases p<;>simp (decide:=true) only [Fm.vl,if_false,if_true,Bool.false_eq_true,sg_vl v a _ h'.1.2,sg_vl v b _ h'.2]<;>cases a.vl v<;>cases b.vl v<;>rfl
   . rename_i h62
     have ho : o=38∨o=124:=by
      rcases of_decide_eq_true h'.1.1 with e | e | e
      . exact .inl e
      . exact .inr e
      . exact absurd e h62
     rcases ho with rfl | rfl<;>cases p<;>simp (decide:=true) only [Fm.vl,if_false,if_true,Bool.false_eq_true,sg_vl v a _ h'.1.2,sg_vl v b _ h'.2,show (162 : UInt8) - 38=124 from rfl,show (162 : UInt8) - 124=38 from rfl]<;>cases a.vl v<;>cases b.vl v<;>rfl
theorem sg_sz : ∀ (x : Fm) (p : Bool),(x.sg p).T.size<=2 * x.T.size
 | .lf c, p => by
   have h1 : ∀ d,(Fm.lf d).T.size=1:=fun d => rfl
   rw [Fm.sg]
   split<;>split<;>(try rw [size_ng])<;>simp only [h1]<;>omega
 | .ng a,p => by rw [Fm.sg,size_ng]; have:=sg_sz a (!p); omega
 | .jn o a b, p => by
   rw [Fm.sg]
   have h1:=sg_sz a p
   have h2:=sg_sz b p
   have h3:=sg_sz a false
   have h4:=sg_sz b true
   have h5:=sg_sz a true
   have h6:=sg_sz b false
   split
   . cases p
     . simp only [Bool.false_eq_true,if_false,size_jn]; omega
     . simp only [if_true,size_jn]; omega
   . simp only [size_jn]; omega
end Abs.Y
