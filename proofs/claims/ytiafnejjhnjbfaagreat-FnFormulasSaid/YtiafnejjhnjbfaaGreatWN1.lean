/- What functions of this program compute, over plain data. No condition. -/
import Derived.Test.YtiafnejjhnjbfaaGreatNF2
import Derived.Test.YtiafnejjhnjbfaaGreatFQ5
import Derived.Test.YtiafnejjhnjbfaaGreatFQ1
import Derived.Test.YtiafnejjhnjbfaaGreatChecked
import Derived.WalkKit
import Derived.Tactics
import Derived.Tactics2
import Derived.Defers
import Derived.Laws.Pointers
import Derived.Laws.LoneSync
import Derived.RegionTactic
import Derived.RegionCalls
import Derived.ChangeAlike
import Derived.Laws.NewBlocks
set_option linter.all false
namespace Abs.Y
open Go Go.Proofs Abs
open Nat renaming reduceEqDiff -> Qa, reduceLT -> Qb, reduceAdd -> Qc, reduceMul -> Qd, reduceSub -> Qe, reduceLeDiff -> Qf, reduceSubDiff -> Qg, reduceBEq -> Qh
open Bool renaming not_eq_true' -> Ba, not_eq_false' -> Bb, and_eq_true -> Bc, or_eq_true -> Bh, or_eq_false_iff -> Be
open Int renaming ofNat_lt -> Ia, ofNat_le -> Ib, not_lt -> Ic, not_le -> Ie
open Decidable renaming not_not -> Da
set_option maxRecDepth 100000

set_option maxHeartbeats 8000000 in
theorem l22Value_ok (m : Nat) (hm : m < 64) : ∀ x : Fm,x.wf=true->x.T.size<=100000->Ctr Tryz.prog 55 [.str x.T,.int .i64 m] false (.d (.bool (x.vl (bitF m)))) []
 | .lf c, hw, hs => by
   have c0:=l22Parts_ok (.lf c) hw (by omega)
   have c0 : Ctr Tryz.prog 46 [.str (Fm.lf c).T] true (.tup [.d (.int .u8 c.toNat),.d (.str ⟨#[]⟩),.d (.str ⟨#[]⟩)]) []:=c0
   rw [Fm.vl]
   generalize (Fm.lf c).T=t at *
   by_cases h0 : c=48
   . rw [if_pos h0]
     rw [h0,show ((48 : UInt8).toNat : Int)=48 from rfl] at c0
     refine Ctr.of (n:=62) (rs:=[.tmp 4]) Tryz.func55 rfl rfl Tryz.ntmps55 rfl rfl (by kernel_rfl) Tryz.checked.mixed ?_
     simp (disch:=first | omega | decide +kernel) only [go_sem,Qa,Qb,Qc,Qd,Qe,↓reduceIte,reduceCtorEq,Qf,Qg,Qh]
     (repeat' (first | ((first | (refine gsel_split (fun q' => ?_) (fun q' => ?_)<;>(have h':=q')<;>(try simp only [za1,za2,Ba,Bb,za3,ne_eq,za4,za5,za6,Ia,Ib,Ic,Ie,Da,Bc,Bh,Be,za7,za8] at h')<;>try (exfalso; omega)) | (have q':=trivial; first | refine callX_shared (c0) rfl (by decide) ?_ | refine callY_shared (c0) rfl ?_ | refine hE _ _ ret_ne ?_ | refine hE _ _ exit_ne ?_))<;>(try simp (disch:=first | omega | decide +kernel) only [q',go_sem,Qa,Qb,Qc,Qd,Qe,↓reduceIte,reduceCtorEq,Qf,Qg,Qh])<;>clear q') | refine hN _ ?_ ?_ Wk.kk | with_reducible refine And.intro ?_ ?_ | with_reducible omega | exact ok_ints | exact cells_ints | exact no_mem | with_reducible exact plain_ints | (refine le_maxLen ?_; omega) | (refine za9 ⟨?_,?_⟩) | (simp only [go_sem,Qc,Qb,zb1,zb2,forall_eq]; done)))
     all_goals (first | omega | assumption | rfl | exact absurd trivial ‹¬True›)
   . rw [if_neg h0]
     have h0 : ¬ (c.toNat : Int)=48:=fun h => h0 (toN_eq.1 h)
     by_cases h1 : c=49
     . rw [if_pos h1]
       rw [h1,show ((49 : UInt8).toNat : Int)=49 from rfl] at c0
       refine Ctr.of (n:=62) (rs:=[.tmp 4]) Tryz.func55 rfl rfl Tryz.ntmps55 rfl rfl (by kernel_rfl) Tryz.checked.mixed ?_
       simp (disch:=first | omega | decide +kernel) only [go_sem,Qa,Qb,Qc,Qd,Qe,↓reduceIte,reduceCtorEq,Qf,Qg,Qh]
       (repeat' (first | ((first | (refine gsel_split (fun q' => ?_) (fun q' => ?_)<;>(have h':=q')<;>(try simp only [za1,za2,Ba,Bb,za3,ne_eq,za4,za5,za6,Ia,Ib,Ic,Ie,Da,Bc,Bh,Be,za7,za8] at h')<;>try (exfalso; omega)) | (have q':=trivial; first | refine callX_shared (c0) rfl (by decide) ?_ | refine callY_shared (c0) rfl ?_ | refine hE _ _ ret_ne ?_ | refine hE _ _ exit_ne ?_))<;>(try simp (disch:=first | omega | decide +kernel) only [q',go_sem,Qa,Qb,Qc,Qd,Qe,↓reduceIte,reduceCtorEq,Qf,Qg,Qh])<;>clear q') | refine hN _ ?_ ?_ Wk.kk | with_reducible refine And.intro ?_ ?_ | with_reducible omega | exact ok_ints | exact cells_ints | exact no_mem | with_reducible exact plain_ints | (refine le_maxLen ?_; omega) | (refine za9 ⟨?_,?_⟩) | (simp only [go_sem,Qc,Qb,zb1,zb2,forall_eq]; done)))
       all_goals (first | omega | assumption | rfl | exact absurd trivial ‹¬True›)
     . rw [if_neg h1]
       have h1 : ¬ (c.toNat : Int)=49:=fun h => h1 (toN_eq.1 h)
       have hl : 97<=c.toNat∧c.toNat<=102:=by
        have h2 : isLet c=true:=by
         have h2 : isLf c=true:=hw
         rw [isLf,Bh,decide_eq_true_eq] at h2
         rcases h2 with (h2 | h2) | h2
         . subst h2; exact absurd rfl h0
         . subst h2; exact absurd rfl h1
         . exact h2
        have h3:=of_decide_eq_true h2
        rw [UInt8.le_iff_toNat_le,UInt8.le_iff_toNat_le] at h3
        exact h3
       have hwr : IntKind.u8.wrap ((c.toNat : Int) - 97)=((c.toNat - 97 : Nat) : Int):=by
        rw [show (c.toNat : Int) - 97=((c.toNat - 97 : Nat) : Int) by omega]
        have : ∀ d,d < 6->IntKind.u8.wrap ((d : Nat) : Int)=(d : Nat):=by decide
        exact this _ (by omega)
       have hbt:=bit_w m hm (c.toNat - 97) (by omega)
       have hd : (0 : Int)<=((c.toNat - 97 : Nat) : Int):=by omega
       rw [bitF]
       have g1 : ¬ (c.toNat : Int)=126:=by omega
       have g2 : ¬ (c.toNat : Int)=38:=by omega
       have g3 : ¬ (c.toNat : Int)=124:=by omega
       have g4 : ¬ (c.toNat : Int)=62:=by omega
       generalize (c.toNat - 97)=d at *
       have hb : IntKind.i64.bits=64:=rfl
       refine Ctr.of (n:=62) (rs:=[.tmp 4]) Tryz.func55 rfl rfl Tryz.ntmps55 rfl rfl (by kernel_rfl) Tryz.checked.mixed ?_
       simp (disch:=first | omega | decide +kernel) only [h0,h1,g1,g2,g3,g4,hwr,hbt,hb,go_sem,Qa,Qb,Qc,Qd,Qe,↓reduceIte,reduceCtorEq,Qf,Qg,Qh]
       (repeat' (first | ((first | (refine gsel_split (fun q' => ?_) (fun q' => ?_)<;>(have h':=q')<;>(try simp only [za1,za2,Ba,Bb,za3,ne_eq,za4,za5,za6,Ia,Ib,Ic,Ie,Da,Bc,Bh,Be,za7,za8] at h')<;>try (exfalso; omega)) | (have q':=trivial; first | refine callX_shared (c0) rfl (by decide) ?_ | refine callY_shared (c0) rfl ?_ | refine hE _ _ ret_ne ?_ | refine hE _ _ exit_ne ?_))<;>(try simp (disch:=first | omega | decide +kernel) only [q',h0,h1,g1,g2,g3,g4,hwr,hbt,hb,go_sem,Qa,Qb,Qc,Qd,Qe,↓reduceIte,reduceCtorEq,Qf,Qg,Qh])<;>clear q') | refine hN _ ?_ ?_ Wk.kk | with_reducible refine And.intro ?_ ?_ | with_reducible omega | exact ok_ints | exact cells_ints | exact no_mem | with_reducible exact plain_ints | (refine le_maxLen ?_; omega) | (refine za9 ⟨?_,?_⟩) | (simp only [go_sem,Qc,Qb,zb1,zb2,forall_eq]; done)))
       all_goals (first | omega | assumption | rfl | exact absurd trivial ‹¬True›)
 | .ng a, hw, hs => by
   have c0:=l22Parts_ok (.ng a) hw (by omega)
   have c0 : Ctr Tryz.prog 46 [.str (Fm.ng a).T] true (.tup [.d (.int .u8 126),.d (.str a.T),.d (.str ⟨#[]⟩)]) []:=c0
   rw [size_ng] at hs
   have c:=l22Value_ok m hm a hw (by omega)
   rw [Fm.vl]
   generalize (Fm.ng a).T=t at *
   generalize a.T=x at *
   generalize a.vl (bitF m)=b at *
   refine Ctr.of (n:=62) (rs:=[.tmp 4]) Tryz.func55 rfl rfl Tryz.ntmps55 rfl rfl (by kernel_rfl) Tryz.checked.mixed ?_
   simp (disch:=first | omega | decide +kernel) only [go_sem,Qa,Qb,Qc,Qd,Qe,↓reduceIte,reduceCtorEq,Qf,Qg,Qh]
   (repeat' (first | ((first | (refine gsel_split (fun q' => ?_) (fun q' => ?_)<;>(have h':=q')<;>(try simp only [za1,za2,Ba,Bb,za3,ne_eq,za4,za5,za6,Ia,Ib,Ic,Ie,Da,Bc,Bh,Be,za7,za8] at h')<;>try (exfalso; omega)) | (have q':=trivial; first | refine callX_shared (c0) rfl (by decide) ?_ | refine callY_shared (c0) rfl ?_ | refine callX_new (c) rfl (by decide) ?_ | refine callY_new (c) rfl ?_ | refine hE _ _ ret_ne ?_ | refine hE _ _ exit_ne ?_))<;>(try simp (disch:=first | omega | decide +kernel) only [q',go_sem,Qa,Qb,Qc,Qd,Qe,↓reduceIte,reduceCtorEq,Qf,Qg,Qh])<;>clear q') | refine hN _ ?_ ?_ Wk.kk | with_reducible refine And.intro ?_ ?_ | with_reducible omega | exact ok_ints | exact cells_ints | exact no_mem | with_reducible exact plain_ints | (refine le_maxLen ?_; omega) | (refine za9 ⟨?_,?_⟩) | (simp only [go_sem,Qc,Qb,zb1,zb2,forall_eq]; done)))
   all_goals (first | omega | assumption | rfl | exact absurd trivial ‹¬True›)
 | .jn o a b, hw, hs => by
   have c0:=l22Parts_ok (.jn o a b) hw (by omega)
   have c0 : Ctr Tryz.prog 46 [.str (Fm.jn o a b).T] true (.tup [.d (.int .u8 o.toNat),.d (.str a.T),.d (.str b.T)]) []:=c0
   have hw' : (isOp o && a.wf && b.wf)=true:=hw
   simp only [Bc] at hw'
   rw [size_jn] at hs
   have c:=l22Value_ok m hm a hw'.1.2 (by omega)
   have c':=l22Value_ok m hm b hw'.2 (by omega)
   have ho:=of_decide_eq_true hw'.1.1
   rw [Fm.vl]
   generalize (Fm.jn o a b).T=t at *
   generalize a.T=x at *
   generalize b.T=y at *
   generalize a.vl (bitF m)=p at *
   generalize b.vl (bitF m)=q at *
   rcases ho with rfl | rfl | rfl
   . rw [if_pos rfl]
     rw [show ((38 : UInt8).toNat : Int)=38 from rfl] at c0
     cases p <;>
     . refine Ctr.of (n:=62) (rs:=[.tmp 4]) Tryz.func55 rfl rfl Tryz.ntmps55 rfl rfl (by kernel_rfl) Tryz.checked.mixed ?_
       simp (disch:=first | omega | decide +kernel) only [Bool.true_and,Bool.false_and,go_sem,Qa,Qb,Qc,Qd,Qe,↓reduceIte,reduceCtorEq,Qf,Qg,Qh]
       (repeat' (first | ((first | (refine gsel_split (fun q' => ?_) (fun q' => ?_)<;>(have h':=q')<;>(try simp only [za1,za2,Ba,Bb,za3,ne_eq,za4,za5,za6,Ia,Ib,Ic,Ie,Da,Bc,Bh,Be,za7,za8] at h')<;>try (exfalso; omega)) | (have q':=trivial; first | refine callX_shared (c0) rfl (by decide) ?_ | refine callY_shared (c0) rfl ?_ | refine callX_new (c) rfl (by decide) ?_ | refine callY_new (c) rfl ?_ | refine callX_new (c') rfl (by decide) ?_ | refine callY_new (c') rfl ?_ | refine hE _ _ ret_ne ?_ | refine hE _ _ exit_ne ?_))<;>(try simp (disch:=first | omega | decide +kernel) only [q',Bool.true_and,Bool.false_and,go_sem,Qa,Qb,Qc,Qd,Qe,↓reduceIte,reduceCtorEq,Qf,Qg,Qh])<;>clear q') | refine hN _ ?_ ?_ Wk.kk | with_reducible refine And.intro ?_ ?_ | with_reducible omega | exact ok_ints | exact cells_ints | exact no_mem | with_reducible exact plain_ints | (refine le_maxLen ?_; omega) | (refine za9 ⟨?_,?_⟩) | (simp only [go_sem,Qc,Qb,zb1,zb2,forall_eq]; done)))
       all_goals (first | omega | assumption | rfl | exact absurd trivial ‹¬True› | exact congrArg D.bool (by decide))
   . rw [if_neg (by decide),if_pos rfl]
     rw [show ((124 : UInt8).toNat : Int)=124 from rfl] at c0
     cases p <;>
     . refine Ctr.of (n:=62) (rs:=[.tmp 4]) Tryz.func55 rfl rfl Tryz.ntmps55 rfl rfl (by kernel_rfl) Tryz.checked.mixed ?_
       simp (disch:=first | omega | decide +kernel) only [Bool.true_or,Bool.false_or,go_sem,Qa,Qb,Qc,Qd,Qe,↓reduceIte,reduceCtorEq,Qf,Qg,Qh]
       (repeat' (first | ((first | (refine gsel_split (fun q' => ?_) (fun q' => ?_)<;>(have h':=q')<;>(try simp only [za1,za2,Ba,Bb,za3,ne_eq,za4,za5,za6,Ia,Ib,Ic,Ie,Da,Bc,Bh,Be,za7,za8] at h')<;>try (exfalso; omega)) | (have q':=trivial; first | refine callX_shared (c0) rfl (by decide) ?_ | refine callY_shared (c0) rfl ?_ | refine callX_new (c) rfl (by decide) ?_ | refine callY_new (c) rfl ?_ | refine callX_new (c') rfl (by decide) ?_ | refine callY_new (c') rfl ?_ | refine hE _ _ ret_ne ?_ | refine hE _ _ exit_ne ?_))<;>(try simp (disch:=first | omega | decide +kernel) only [q',Bool.true_or,Bool.false_or,go_sem,Qa,Qb,Qc,Qd,Qe,↓reduceIte,reduceCtorEq,Qf,Qg,Qh])<;>clear q') | refine hN _ ?_ ?_ Wk.kk | with_reducible refine And.intro ?_ ?_ | with_reducible omega | exact ok_ints | exact cells_ints | exact no_mem | with_reducible exact plain_ints | (refine le_maxLen ?_; omega) | (refine za9 ⟨?_,?_⟩) | (simp only [go_sem,Qc,Qb,zb1,zb2,forall_eq]; done)))
       all_goals (first | omega | assumption | rfl | exact absurd trivial ‹¬True› | exact congrArg D.bool (by decide))
   . rw [if_neg (by decide),if_neg (by decide)]
     rw [show ((62 : UInt8).toNat : Int)=62 from rfl] at c0
     cases p <;>
     . refine Ctr.of (n:=62) (rs:=[.tmp 4]) Tryz.func55 rfl rfl Tryz.ntmps55 rfl rfl (by kernel_rfl) Tryz.checked.mixed ?_
       simp (disch:=first | omega | decide +kernel) only [Bool.not_true,Bool.not_false,Bool.true_or,Bool.false_or,go_sem,Qa,Qb,Qc,Qd,Qe,↓reduceIte,reduceCtorEq,Qf,Qg,Qh]
       (repeat' (first | ((first | (refine gsel_split (fun q' => ?_) (fun q' => ?_)<;>(have h':=q')<;>(try simp only [za1,za2,Ba,Bb,za3,ne_eq,za4,za5,za6,Ia,Ib,Ic,Ie,Da,Bc,Bh,Be,za7,za8] at h')<;>try (exfalso; omega)) | (have q':=trivial; first | refine callX_shared (c0) rfl (by decide) ?_ | refine callY_shared (c0) rfl ?_ | refine callX_new (c) rfl (by decide) ?_ | refine callY_new (c) rfl ?_ | refine callX_new (c') rfl (by decide) ?_ | refine callY_new (c') rfl ?_ | refine hE _ _ ret_ne ?_ | refine hE _ _ exit_ne ?_))<;>(try simp (disch:=first | omega | decide +kernel) only [q',Bool.not_true,Bool.not_false,Bool.true_or,Bool.false_or,go_sem,Qa,Qb,Qc,Qd,Qe,↓reduceIte,reduceCtorEq,Qf,Qg,Qh])<;>clear q') | refine hN _ ?_ ?_ Wk.kk | with_reducible refine And.intro ?_ ?_ | with_reducible omega | exact ok_ints | exact cells_ints | exact no_mem | with_reducible exact plain_ints | (refine le_maxLen ?_; omega) | (refine za9 ⟨?_,?_⟩) | (simp only [go_sem,Qc,Qb,zb1,zb2,forall_eq]; done)))
       all_goals (first | omega | assumption | rfl | exact absurd trivial ‹¬True› | exact congrArg D.bool (by decide))
theorem vSv_ok (s : ByteArray) (hk : okS s=true) (m : Nat) (hm : m < 64) : Ctr Tryz.prog 55 [.str s,.int .i64 m] false (.d (.bool (vS s m))) []:=by
 obtain ⟨h1,h2,h3⟩:=okS_spec hk
 have:=l22Value_ok m hm (fmS s) h1 (by rw [← h2]; omega)
 rwa [← h2] at this
theorem l22False_ok (s : ByteArray) (hk : okS s=true) : Ctr Tryz.prog 40 [.str s] false (.d (.int .i64 (ffI (vS s)))) []:=by
 have hv:=vSv_ok s hk
 generalize vS s=V at *
 refine Ctr.of (n:=13) (rs:=[.tmp 2]) Tryz.func40 rfl rfl Tryz.ntmps40 rfl rfl (by kernel_rfl) Tryz.checked.mixed ?_
 simp (disch:=first | omega | decide +kernel) only [go_sem,Qa,Qb,Qc,Qd,Qe,↓reduceIte,reduceCtorEq,Qf,Qg,Qh]
 refine Ok.loopC [12,11,10,9,8,7,6,5,4,3,2,1] (fun i => [(3,.d (.int .i64 (i : Nat)))]) 64 (fun i => ∀ j,j < i->(!V j)=false) (by simp) (Wk.kk) ?_
 intro R i hN hE hi hI
 by_cases hlt : i < 64
 . have c1:=hv i hlt
   cases hb : V i with
   | true =>
     rw [hb] at c1
     simp (disch:=first | omega | decide +kernel) only [go_sem,Qa,Qb,Qc,Qd,Qe,↓reduceIte,reduceCtorEq,Qf,Qg,Qh]
     (repeat' (first | ((first | (refine gsel_split (fun q' => ?_) (fun q' => ?_)<;>(have h':=q')<;>(try simp only [za1,za2,Ba,Bb,za3,ne_eq,za4,za5,za6,Ia,Ib,Ic,Ie,Da,Bc,Bh,Be,za7,za8] at h')) | (have q':=trivial; first | refine callX_new (c1) rfl (by decide) ?_ | refine callY_new (c1) rfl ?_ | refine hE _ _ ret_ne ?_ | refine hE _ _ exit_ne ?_))<;>(try simp (disch:=first | omega | decide +kernel) only [q',go_sem,Qa,Qb,Qc,Qd,Qe,↓reduceIte,reduceCtorEq,Qf,Qg,Qh])<;>clear q') | refine hN _ ?_ ?_ Wk.kk | with_reducible refine And.intro ?_ ?_ | with_reducible omega | exact ok_ints | exact cells_ints | exact no_mem | with_reducible exact plain_ints | (refine le_maxLen ?_; omega) | (refine za9 ⟨?_,?_⟩) | (simp only [go_sem,Qc,Qb,zb1,zb2,forall_eq]; done)))
     all_goals (first | omega | assumption | exact absurd trivial ‹¬True› | exact all_succ hI (by rw [hb]; rfl))
   | false =>
     rw [hb] at c1
     have hr : ffI V=(i : Nat):=by rw [ffI,idxR_some hlt (by rw [hb]; rfl) hI]
     rw [hr] at hE
     simp (disch:=first | omega | decide +kernel) only [go_sem,Qa,Qb,Qc,Qd,Qe,↓reduceIte,reduceCtorEq,Qf,Qg,Qh]
     (repeat' (first | ((first | (refine gsel_split (fun q' => ?_) (fun q' => ?_)<;>(have h':=q')<;>(try simp only [za1,za2,Ba,Bb,za3,ne_eq,za4,za5,za6,Ia,Ib,Ic,Ie,Da,Bc,Bh,Be,za7,za8] at h')) | (have q':=trivial; first | refine callX_new (c1) rfl (by decide) ?_ | refine callY_new (c1) rfl ?_ | refine hE _ _ ret_ne ?_ | refine hE _ _ exit_ne ?_))<;>(try simp (disch:=first | omega | decide +kernel) only [q',go_sem,Qa,Qb,Qc,Qd,Qe,↓reduceIte,reduceCtorEq,Qf,Qg,Qh])<;>clear q') | refine hN _ ?_ ?_ Wk.kk | with_reducible refine And.intro ?_ ?_ | with_reducible omega | exact ok_ints | exact cells_ints | exact no_mem | with_reducible exact plain_ints | (refine le_maxLen ?_; omega) | (refine za9 ⟨?_,?_⟩) | (simp only [go_sem,Qc,Qb,zb1,zb2,forall_eq]; done)))
     all_goals (first | omega | assumption | rfl | exact absurd trivial ‹¬True›)
 . have hr : ffI V=-1:=by rw [ffI,idxR_none fun j hj => hI j (by omega)]
   simp (disch:=first | omega | decide +kernel) only [go_sem,Qa,Qb,Qc,Qd,Qe,↓reduceIte,reduceCtorEq,Qf,Qg,Qh]
   (repeat' (first | ((first | (refine gsel_split (fun q' => ?_) (fun q' => ?_)<;>(have h':=q')<;>(try simp only [za1,za2,Ba,Bb,za3,ne_eq,za4,za5,za6,Ia,Ib,Ic,Ie,Da,Bc,Bh,Be,za7,za8] at h')) | (have q':=trivial; first | refine hE _ _ ret_ne ?_ | refine hE _ _ exit_ne ?_))<;>(try simp (disch:=first | omega | decide +kernel) only [q',go_sem,Qa,Qb,Qc,Qd,Qe,↓reduceIte,reduceCtorEq,Qf,Qg,Qh])<;>clear q') | refine hN _ ?_ ?_ Wk.kk | with_reducible refine And.intro ?_ ?_ | with_reducible omega | exact ok_ints | exact cells_ints | exact no_mem | with_reducible exact plain_ints | (refine le_maxLen ?_; omega) | (refine za9 ⟨?_,?_⟩) | (simp only [go_sem,Qc,Qb,zb1,zb2,forall_eq]; done)))
   all_goals (first | omega | assumption | (rw [hr]; done) | exact absurd trivial ‹¬True› | trivial)
theorem IsTautologyS_ok (s : ByteArray) (hs : s.size<=1000000) : Ctr Tryz.prog 18 [.str s] true (.tup [.d (.bool (tautB s)),.d (.bool (okS s))]) []:=by
 have c1:=l22Good_ok s hs
 rw [tautB]
 cases hk : okS s with
 | false =>
   rw [hk] at c1
   rw [Bool.false_and]
   refine Ctr.of (n:=10) (rs:=[.tmp 2,.tmp 3]) Tryz.func18 rfl rfl Tryz.ntmps18 rfl rfl (by kernel_rfl) Tryz.checked.mixed ?_
   simp (disch:=first | omega | decide +kernel) only [go_sem,Qa,Qb,Qc,Qd,Qe,↓reduceIte,reduceCtorEq,Qf,Qg,Qh]
   (repeat' (first | ((first | (refine gsel_split (fun q' => ?_) (fun q' => ?_)<;>(have h':=q')<;>(try simp only [za1,za2,Ba,Bb,za3,ne_eq,za4,za5,za6,Ia,Ib,Ic,Ie,Da,Bc,Bh,Be,za7,za8] at h')<;>try (exfalso; omega)) | (have q':=trivial; first | refine callX_new (c1) rfl (by decide) ?_ | refine callY_new (c1) rfl ?_ | refine hE _ _ ret_ne ?_ | refine hE _ _ exit_ne ?_))<;>(try simp (disch:=first | omega | decide +kernel) only [q',go_sem,Qa,Qb,Qc,Qd,Qe,↓reduceIte,reduceCtorEq,Qf,Qg,Qh])<;>clear q') | refine hN _ ?_ ?_ Wk.kk | with_reducible refine And.intro ?_ ?_ | with_reducible omega | exact ok_ints | exact cells_ints | exact no_mem | with_reducible exact plain_ints | (refine le_maxLen ?_; omega) | (refine za9 ⟨?_,?_⟩) | (simp only [go_sem,Qc,Qb,zb1,zb2,forall_eq]; done)))
   all_goals (first | omega | assumption | exact absurd trivial ‹¬True› | exact ret_s2 [] rfl rfl)
 | true =>
   rw [hk] at c1
   have c2:=l22False_ok s hk
   rw [Bool.true_and]
   generalize ffI (vS s)=r at *
   refine Ctr.of (n:=10) (rs:=[.tmp 2,.tmp 3]) Tryz.func18 rfl rfl Tryz.ntmps18 rfl rfl (by kernel_rfl) Tryz.checked.mixed ?_
   simp (disch:=first | omega | decide +kernel) only [go_sem,Qa,Qb,Qc,Qd,Qe,↓reduceIte,reduceCtorEq,Qf,Qg,Qh]
   (repeat' (first | ((first | (refine gsel_split (fun q' => ?_) (fun q' => ?_)<;>(have h':=q')<;>(try simp only [za1,za2,Ba,Bb,za3,ne_eq,za4,za5,za6,Ia,Ib,Ic,Ie,Da,Bc,Bh,Be,za7,za8] at h')<;>try (exfalso; omega)) | (have q':=trivial; first | refine callX_new (c1) rfl (by decide) ?_ | refine callY_new (c1) rfl ?_ | refine callX_new (c2) rfl (by decide) ?_ | refine callY_new (c2) rfl ?_ | refine hE _ _ ret_ne ?_ | refine hE _ _ exit_ne ?_))<;>(try simp (disch:=first | omega | decide +kernel) only [q',go_sem,Qa,Qb,Qc,Qd,Qe,↓reduceIte,reduceCtorEq,Qf,Qg,Qh])<;>clear q') | refine hN _ ?_ ?_ Wk.kk | with_reducible refine And.intro ?_ ?_ | with_reducible omega | exact ok_ints | exact cells_ints | exact no_mem | with_reducible exact plain_ints | (refine le_maxLen ?_; omega) | (refine za9 ⟨?_,?_⟩) | (simp only [go_sem,Qc,Qb,zb1,zb2,forall_eq]; done)))
   all_goals (first | omega | assumption | exact absurd trivial ‹¬True› | exact ret_s2 [] rfl rfl)
theorem l22Implies_ok (s t : ByteArray) (hk : okS s=true) (hk' : okS t=true) : Ctr Tryz.prog 36 [.str s,.str t] false (.d (.bool (impB (vS s) (vS t)))) []:=by
 have hv:=vSv_ok s hk
 have hv':=vSv_ok t hk'
 generalize vS s=V at *
 generalize vS t=U at *
 refine Ctr.of (n:=19) (rs:=[.tmp 4]) Tryz.func36 rfl rfl Tryz.ntmps36 rfl rfl (by kernel_rfl) Tryz.checked.mixed ?_
 simp (disch:=first | omega | decide +kernel) only [go_sem,Qa,Qb,Qc,Qd,Qe,↓reduceIte,reduceCtorEq,Qf,Qg,Qh]
 refine Ok.loopC [18,17,16,15,14,13,12,11,10,9,8,7,6,5,4,3,2] (fun i => [(5,.d (.int .i64 (i : Nat)))]) 64 (fun i => ∀ j,j < i->(V j && !U j)=false) (by simp) (Wk.kk) ?_
 intro R i hN hE hi hI
 by_cases hlt : i < 64
 . have c1:=hv i hlt
   have c2:=hv' i hlt
   have hI':=fun (h : (V i && !U i)=false) => all_succ (P:=fun j => (V j && !U j)=false) hI h
   have hbad : (V i && !U i)=true->impB V U=false:=fun h => Bool.eq_false_iff.2 fun h' => by
    rw [Bc] at h
    have:=impB_iff.1 h' i hlt h.1
    rw [this] at h; simp at h
   cases hb : V i<;>cases hb' : U i
   all_goals
    rw [hb] at c1
    rw [hb'] at c2
    try rw [hbad (by rw [hb,hb']; rfl)] at hE
    simp (disch:=first | omega | decide +kernel) only [go_sem,Qa,Qb,Qc,Qd,Qe,↓reduceIte,reduceCtorEq,Qf,Qg,Qh]
    (repeat' (first | ((first | (refine gsel_split (fun q' => ?_) (fun q' => ?_)<;>(have h':=q')<;>(try simp only [za1,za2,Ba,Bb,za3,ne_eq,za4,za5,za6,Ia,Ib,Ic,Ie,Da,Bc,Bh,Be,za7,za8] at h')) | (have q':=trivial; first | refine callX_new (c1) rfl (by decide) ?_ | refine callY_new (c1) rfl ?_ | refine callX_new (c2) rfl (by decide) ?_ | refine callY_new (c2) rfl ?_ | refine hE _ _ ret_ne ?_ | refine hE _ _ exit_ne ?_))<;>(try simp (disch:=first | omega | decide +kernel) only [q',go_sem,Qa,Qb,Qc,Qd,Qe,↓reduceIte,reduceCtorEq,Qf,Qg,Qh])<;>clear q') | refine hN _ ?_ ?_ Wk.kk | with_reducible refine And.intro ?_ ?_ | with_reducible omega | exact ok_ints | exact cells_ints | exact no_mem | with_reducible exact plain_ints | (refine le_maxLen ?_; omega) | (refine za9 ⟨?_,?_⟩) | (simp only [go_sem,Qc,Qb,zb1,zb2,forall_eq]; done)))
   all_goals (first | omega | assumption | rfl | exact absurd trivial ‹¬True› | exact hI' (by rw [hb,hb']; rfl))
 . have hr : impB V U=true:=impB_iff.2 fun m hm h => by
    have:=hI m (by omega)
    rw [h] at this; simpa using this
   simp (disch:=first | omega | decide +kernel) only [go_sem,Qa,Qb,Qc,Qd,Qe,↓reduceIte,reduceCtorEq,Qf,Qg,Qh]
   (repeat' (first | ((first | (refine gsel_split (fun q' => ?_) (fun q' => ?_)<;>(have h':=q')<;>(try simp only [za1,za2,Ba,Bb,za3,ne_eq,za4,za5,za6,Ia,Ib,Ic,Ie,Da,Bc,Bh,Be,za7,za8] at h')) | (have q':=trivial; first | refine hE _ _ ret_ne ?_ | refine hE _ _ exit_ne ?_))<;>(try simp (disch:=first | omega | decide +kernel) only [q',go_sem,Qa,Qb,Qc,Qd,Qe,↓reduceIte,reduceCtorEq,Qf,Qg,Qh])<;>clear q') | refine hN _ ?_ ?_ Wk.kk | with_reducible refine And.intro ?_ ?_ | with_reducible omega | exact ok_ints | exact cells_ints | exact no_mem | with_reducible exact plain_ints | (refine le_maxLen ?_; omega) | (refine za9 ⟨?_,?_⟩) | (simp only [go_sem,Qc,Qb,zb1,zb2,forall_eq]; done)))
   all_goals (first | omega | assumption | (rw [hr]; done) | exact absurd trivial ‹¬True› | trivial)
theorem AreEquivalentS_ok (s t : ByteArray) (hs : s.size<=1000000) (ht : t.size<=1000000) : Ctr Tryz.prog 12 [.str s,.str t] true (.tup [.d (.bool (eqvV s t)),.d (.bool (cmG s t))]) []:=by
 have c1:=l22Good_ok s hs
 have c2:=l22Good_ok t ht
 rw [eqvV,cmG]
 cases k1 : okS s with
 | false =>
   rw [k1] at c1
   rw [Bool.false_and,Bool.false_and]
   refine Ctr.of (n:=22) (rs:=[.tmp 4,.tmp 5]) Tryz.func12 rfl rfl Tryz.ntmps12 rfl rfl (by kernel_rfl) Tryz.checked.mixed ?_
   simp (disch:=first | omega | decide +kernel) only [go_sem,Qa,Qb,Qc,Qd,Qe,↓reduceIte,reduceCtorEq,Qf,Qg,Qh]
   (repeat' (first | ((first | (refine gsel_split (fun q' => ?_) (fun q' => ?_)<;>(have h':=q')<;>(try simp only [za1,za2,Ba,Bb,za3,ne_eq,za4,za5,za6,Ia,Ib,Ic,Ie,Da,Bc,Bh,Be,za7,za8] at h')<;>try (exfalso; omega)) | (have q':=trivial; first | refine callX_new (c1) rfl (by decide) ?_ | refine callY_new (c1) rfl ?_ | refine hE _ _ ret_ne ?_ | refine hE _ _ exit_ne ?_))<;>(try simp (disch:=first | omega | decide +kernel) only [q',go_sem,Qa,Qb,Qc,Qd,Qe,↓reduceIte,reduceCtorEq,Qf,Qg,Qh])<;>clear q') | refine hN _ ?_ ?_ Wk.kk | with_reducible refine And.intro ?_ ?_ | with_reducible omega | exact ok_ints | exact cells_ints | exact no_mem | with_reducible exact plain_ints | (refine le_maxLen ?_; omega) | (refine za9 ⟨?_,?_⟩) | (simp only [go_sem,Qc,Qb,zb1,zb2,forall_eq]; done)))
   all_goals (first | omega | assumption | exact absurd trivial ‹¬True› | exact ret_s2 [] rfl rfl)
 | true =>
   cases k2 : okS t with
   | false =>
     rw [k1] at c1
     rw [k2] at c2
     rw [Bool.and_false,Bool.false_and]
     refine Ctr.of (n:=22) (rs:=[.tmp 4,.tmp 5]) Tryz.func12 rfl rfl Tryz.ntmps12 rfl rfl (by kernel_rfl) Tryz.checked.mixed ?_
     simp (disch:=first | omega | decide +kernel) only [go_sem,Qa,Qb,Qc,Qd,Qe,↓reduceIte,reduceCtorEq,Qf,Qg,Qh]
     (repeat' (first | ((first | (refine gsel_split (fun q' => ?_) (fun q' => ?_)<;>(have h':=q')<;>(try simp only [za1,za2,Ba,Bb,za3,ne_eq,za4,za5,za6,Ia,Ib,Ic,Ie,Da,Bc,Bh,Be,za7,za8] at h')<;>try (exfalso; omega)) | (have q':=trivial; first | refine callX_new (c1) rfl (by decide) ?_ | refine callY_new (c1) rfl ?_ | refine callX_new (c2) rfl (by decide) ?_ | refine callY_new (c2) rfl ?_ | refine hE _ _ ret_ne ?_ | refine hE _ _ exit_ne ?_))<;>(try simp (disch:=first | omega | decide +kernel) only [q',go_sem,Qa,Qb,Qc,Qd,Qe,↓reduceIte,reduceCtorEq,Qf,Qg,Qh])<;>clear q') | refine hN _ ?_ ?_ Wk.kk | with_reducible refine And.intro ?_ ?_ | with_reducible omega | exact ok_ints | exact cells_ints | exact no_mem | with_reducible exact plain_ints | (refine le_maxLen ?_; omega) | (refine za9 ⟨?_,?_⟩) | (simp only [go_sem,Qc,Qb,zb1,zb2,forall_eq]; done)))
     all_goals (first | omega | assumption | exact absurd trivial ‹¬True› | exact ret_s2 [] rfl rfl)
   | true =>
     have c3:=l22Implies_ok s t k1 k2
     have c4:=l22Implies_ok t s k2 k1
     rw [k1] at c1
     rw [k2] at c2
     rw [Bool.and_true,Bool.true_and]
     generalize impB (vS s) (vS t)=p at *
     generalize impB (vS t) (vS s)=q at *
     cases p <;>
     . refine Ctr.of (n:=22) (rs:=[.tmp 4,.tmp 5]) Tryz.func12 rfl rfl Tryz.ntmps12 rfl rfl (by kernel_rfl) Tryz.checked.mixed ?_
       simp (disch:=first | omega | decide +kernel) only [Bool.true_and,Bool.false_and,go_sem,Qa,Qb,Qc,Qd,Qe,↓reduceIte,reduceCtorEq,Qf,Qg,Qh]
       (repeat' (first | ((first | (refine gsel_split (fun q' => ?_) (fun q' => ?_)<;>(have h':=q')<;>(try simp only [za1,za2,Ba,Bb,za3,ne_eq,za4,za5,za6,Ia,Ib,Ic,Ie,Da,Bc,Bh,Be,za7,za8] at h')<;>try (exfalso; omega)) | (have q':=trivial; first | refine callX_new (c1) rfl (by decide) ?_ | refine callY_new (c1) rfl ?_ | refine callX_new (c2) rfl (by decide) ?_ | refine callY_new (c2) rfl ?_ | refine callX_new (c3) rfl (by decide) ?_ | refine callY_new (c3) rfl ?_ | refine callX_new (c4) rfl (by decide) ?_ | refine callY_new (c4) rfl ?_ | refine hE _ _ ret_ne ?_ | refine hE _ _ exit_ne ?_))<;>(try simp (disch:=first | omega | decide +kernel) only [q',Bool.true_and,Bool.false_and,go_sem,Qa,Qb,Qc,Qd,Qe,↓reduceIte,reduceCtorEq,Qf,Qg,Qh])<;>clear q') | refine hN _ ?_ ?_ Wk.kk | with_reducible refine And.intro ?_ ?_ | with_reducible omega | exact ok_ints | exact cells_ints | exact no_mem | with_reducible exact plain_ints | (refine le_maxLen ?_; omega) | (refine za9 ⟨?_,?_⟩) | (simp only [go_sem,Qc,Qb,zb1,zb2,forall_eq]; done)))
       all_goals (first | omega | assumption | exact absurd trivial ‹¬True› | exact ret_s2 [] rfl rfl)
end Abs.Y

namespace Abs.Y
open Go Go.Proofs Abs
open Nat renaming reduceEqDiff -> Qa, reduceLT -> Qb, reduceAdd -> Qc, reduceMul -> Qd, reduceSub -> Qe, reduceLeDiff -> Qf, reduceSubDiff -> Qg, reduceBEq -> Qh
open Bool renaming not_eq_true' -> Ba, not_eq_false' -> Bb, and_eq_true -> Bc, or_eq_true -> Bh, or_eq_false_iff -> Be
open Int renaming ofNat_lt -> Ia, ofNat_le -> Ib, not_lt -> Ic, not_le -> Ie
open Decidable renaming not_not -> Da
set_option maxRecDepth 100000

def Fm.isLt : Fm->Bool
 | .lf c => isLet c
 | .ng _ => false
 | .jn _ _ _ => false
def Fm.n2 : Fm->Bool
 | .lf _ => true
 | .ng a => a.isLt
 | .jn o a b => decide (o ≠ 62) && a.n2 && b.n2
theorem sg_n2 : ∀ (x : Fm) (p : Bool),x.wf=true->(x.sg p).n2=true
 | .lf c, p, h => by
   rw [Fm.sg]
   split
   . split<;>rfl
   . rename_i hc
     split
     . rfl
     . have h' : isLf c=true:=h
       rw [isLf,Bh,decide_eq_true_eq] at h'
       exact h'.resolve_left hc
 | .ng a,p,h => by rw [Fm.sg]; exact sg_n2 a _ h
 | .jn o a b, p, h => by
   have h' : (isOp o && a.wf && b.wf)=true:=h
   simp only [Bc] at h'
   rw [Fm.sg]
   split
   . cases p
     . simp only [Bool.false_eq_true,if_false,Fm.n2,sg_n2 a _ h'.1.2,sg_n2 b _ h'.2,Bool.and_true]; rfl
     . simp only [if_true,Fm.n2,sg_n2 a _ h'.1.2,sg_n2 b _ h'.2,Bool.and_true]; rfl
   . rename_i h62
     have ho : o=38∨o=124:=by
      rcases of_decide_eq_true h'.1.1 with e | e | e
      . exact .inl e
      . exact .inr e
      . exact absurd e h62
     simp only [Fm.n2,sg_n2 a _ h'.1.2,sg_n2 b _ h'.2,Bool.and_true]
     rcases ho with rfl | rfl<;>cases p<;>rfl
theorem sg_self : ∀ x : Fm,x.n2=true->x.sg true=x
 | .lf c,_ => by rw [Fm.sg]; split<;>rfl
 | .ng (.lf c), h => by
   have hc : isLet c=true:=h
   obtain ⟨h1,h2⟩:=let_ne hc
   rw [Fm.sg,Fm.sg,if_neg (fun e => e.elim h1 h2)]; rfl
 | .ng (.ng _),h => by cases h
 | .ng (.jn _ _ _),h => by cases h
 | .jn o a b, h => by
   have h' : (decide (o ≠ 62) && a.n2 && b.n2)=true:=h
   simp only [Bc,decide_eq_true_eq] at h'
   rw [Fm.sg,if_neg h'.1.1,sg_self a h'.1.2,sg_self b h'.2]; rfl
def swp (c : UInt8) : UInt8:=if c=38 then 124 else if c=124 then 38 else if c=48 then 49 else if c=49 then 48 else c
def Fm.du : Fm->Fm
 | .lf c => .lf (swp c)
 | .ng a => .ng a.du
 | .jn o a b => .jn (swp o) a.du b.du
theorem swp_let {c : UInt8} (h : isLet c=true) : swp c=c:=by
 have h3:=of_decide_eq_true h
 unfold swp
 rw [if_neg,if_neg,if_neg,if_neg]<;>(rintro rfl; revert h; decide)
theorem swp_lf {c : UInt8} (h : isLf c=true) : isLf (swp c)=true:=by
 rw [isLf,Bh,decide_eq_true_eq] at h
 rcases h with (rfl | rfl) | h
 . rfl
 . rfl
 . rw [swp_let h,isLf,h,Bool.or_true]
theorem swp_op {o : UInt8} (h : isOp o=true) (hn : o ≠ 62) : isOp (swp o)=true:=by
 rcases of_decide_eq_true h with rfl | rfl | rfl
 . rfl
 . rfl
 . exact absurd rfl hn
theorem du_wf : ∀ x : Fm,x.wf=true->x.n2=true->x.du.wf=true
 | .lf c,h,_ => swp_lf h
 | .ng (.lf c),h,_ => swp_lf h
 | .ng (.ng _),_,h => by cases h
 | .ng (.jn _ _ _),_,h => by cases h
 | .jn o a b, h, hn => by
   have h' : (isOp o && a.wf && b.wf)=true:=h
   have hn' : (decide (o ≠ 62) && a.n2 && b.n2)=true:=hn
   simp only [Bc,decide_eq_true_eq] at h' hn'
   rw [Fm.du,Fm.wf,swp_op h'.1.1 hn'.1.1,du_wf a h'.1.2 hn'.1.2,du_wf b h'.2 hn'.2]; rfl
theorem du_tl : ∀ x : Fm,x.wf=true->x.n2=true->x.du.tl=x.tl.map swp
 | .lf c,_,_ => rfl
 | .ng (.lf c),_,_ => rfl
 | .ng (.ng _),_,h => by cases h
 | .ng (.jn _ _ _),_,h => by cases h
 | .jn o a b, h, hn => by
   have h' : (isOp o && a.wf && b.wf)=true:=h
   have hn' : (decide (o ≠ 62) && a.n2 && b.n2)=true:=hn
   simp only [Bc,decide_eq_true_eq] at h' hn'
   rw [Fm.du,Fm.tl,Fm.tl,List.map_cons,List.map_append,List.map_cons,List.map_append,du_tl a h'.1.2 hn'.1.2,du_tl b h'.2 hn'.2]; rfl
theorem no62 : ∀ x : Fm,x.wf=true->x.n2=true->(62 : UInt8) ∉ x.tl
 | .lf c, h, _ => by
   intro hm
   rw [Fm.tl,List.mem_singleton] at hm
   rw [← hm] at h; exact absurd h (by decide)
 | .ng (.lf c), h, _ => by
   intro hm
   have h' : isLf c=true:=h
   rw [Fm.tl,Fm.tl,List.mem_cons,List.mem_singleton] at hm
   rcases hm with hm | hm
   . exact absurd hm (by decide)
   . rw [← hm] at h'; exact absurd h' (by decide)
 | .ng (.ng _),_,h => by cases h
 | .ng (.jn _ _ _),_,h => by cases h
 | .jn o a b, h, hn => by
   have h' : (isOp o && a.wf && b.wf)=true:=h
   have hn' : (decide (o ≠ 62) && a.n2 && b.n2)=true:=hn
   simp only [Bc,decide_eq_true_eq] at h' hn'
   intro hm
   simp only [Fm.tl,List.mem_cons,List.mem_append,List.not_mem_nil,or_false] at hm
   rcases hm with hm | hm | hm | hm | hm
   . exact absurd hm (by decide)
   . exact no62 a h'.1.2 hn'.1.2 hm
   . exact hn'.1.1 hm.symm
   . exact no62 b h'.2 hn'.2 hm
   . exact absurd hm (by decide)
theorem du_vl {v v' : UInt8->Bool} (hv : ∀ c,isLet c=true->v' c=!v c) : ∀ x : Fm,x.wf=true->x.n2=true->x.du.vl v'=!x.vl v
 | .lf c, h, _ => by
   have h' : isLf c=true:=h
   rw [isLf,Bh,decide_eq_true_eq] at h'
   rcases h' with (rfl | rfl) | h'
   . rfl
   . rfl
   . obtain ⟨h1,h2⟩:=let_ne h'
     rw [Fm.du,swp_let h',Fm.vl,Fm.vl,if_neg h1,if_neg h2,if_neg h1,if_neg h2,hv c h']
 | .ng (.lf c), h, hn => by
   have hc : isLet c=true:=hn
   obtain ⟨h1,h2⟩:=let_ne hc
   simp only [Fm.du,swp_let hc,Fm.vl,if_neg h1,if_neg h2,hv c hc]
 | .ng (.ng _),_,h => by cases h
 | .ng (.jn _ _ _),_,h => by cases h
 | .jn o a b, h, hn => by
   have h' : (isOp o && a.wf && b.wf)=true:=h
   have hn' : (decide (o ≠ 62) && a.n2 && b.n2)=true:=hn
   simp only [Bc,decide_eq_true_eq] at h' hn'
   have i1:=du_vl hv a h'.1.2 hn'.1.2
   have i2:=du_vl hv b h'.2 hn'.2
   rcases of_decide_eq_true h'.1.1 with rfl | rfl | rfl
   . show (Fm.jn 124 a.du b.du).vl v'=_
     simp (decide:=true) only [Fm.vl,if_false,if_true,i1,i2]
     cases a.vl v<;>cases b.vl v<;>rfl
   . show (Fm.jn 38 a.du b.du).vl v'=_
     simp (decide:=true) only [Fm.vl,if_false,if_true,i1,i2]
     cases a.vl v<;>cases b.vl v<;>rfl
   . exact absurd rfl hn'.1.1
theorem bit_opp : ∀ m,m < 64->∀ k,k < 6->Nat.testBit (63 - m) k=!Nat.testBit m k:=by decide +kernel
end Abs.Y

namespace Go.Proofs
open Go.RowKit
set_option maxRecDepth 100000
theorem Tryz.disable (w : World) : (callFunc 82 #[]).run Tryz.prog w=.ok (.value (.tuple #[])) w:=run_call_mark0 Tryz.func82 (by kernel_rfl) (by kernel_rfl) (by kernel_rfl) .disable (by kernel_rfl) w
theorem Tryz.enable (w : World) : (callFunc 84 #[]).run Tryz.prog w=.ok (.value (.tuple #[])) w:=run_call_mark0 Tryz.func84 (by kernel_rfl) (by kernel_rfl) (by kernel_rfl) .enable (by kernel_rfl) w
theorem Tryz.acquire (a : Addr) (w : World) : (callFunc 85 #[.pointer (some a)]).run Tryz.prog w=.ok (.value (.tuple #[])) w:=run_call_marked Tryz.func85 (by kernel_rfl) (by kernel_rfl) (by kernel_rfl) .acquire (by kernel_rfl) a w
theorem Tryz.releaseMerge (a : Addr) (w : World) : (callFunc 87 #[.pointer (some a)]).run Tryz.prog w=.ok (.value (.tuple #[])) w:=run_call_marked Tryz.func87 (by kernel_rfl) (by kernel_rfl) (by kernel_rfl) .releaseMerge (by kernel_rfl) a w
theorem Tryz.store_deferred (a : Addr) (x : Value) (u : FrameMode) (w : World) (hc : w.cell? a=some x) (hz : w.frozen? a=false) :
 CallsD Tryz.prog 71 #[.pointer (some a),.bool true] u w fun e u' w' => u'=u∧(e=.returned (.tuple #[])∧w'=w.drew.setCell a (.int .u32 1)):=by
 have hc' : w.drew.cell? a=some x:=by go_simp
 have hz' : w.drew.frozen? a=false:=by go_simp
 have hst:=run_call_store (P:=Tryz.prog) Tryz.func78 (by kernel_rfl) (by kernel_rfl) (by kernel_rfl) (by kernel_rfl) (k:=.u32) (y:=1) hc' hz'
 go_enter_d Tryz.func71,Tryz.ntmps71
 go_wp2
 go_region_calls
 all_goals (go_end0; exact ⟨rfl,rfl⟩)
theorem Tryz.unlock_deferred (a : Addr) (u : FrameMode) (w : World) (hc : w.cell? a=some (.int .i32 1)) (hz : w.frozen? a=false) :
 CallsD Tryz.prog 70 #[.pointer (some a)] u w fun e u' w' => u'=u∧(e=.returned (.tuple #[])∧w'=w.setCell a (.int .i32 0)):=by
 have hd:=Tryz.disable
 have he:=Tryz.enable
 have hr:=Tryz.releaseMerge
 have hadd:=run_call_add (P:=Tryz.prog) Tryz.func88 (by kernel_rfl) (by kernel_rfl) (by kernel_rfl) .i32 (by kernel_rfl) (y:=-1) (s:=0) hc hz (by simp [go_sem]; rfl)
 have hcv:=run_convert_to_unsafe (P:=Tryz.prog) (src:=132) (dst:=136) Tryz.underlying132 Tryz.underlying136 (by kernel_rfl) hc
 go_enter_d Tryz.func70,Tryz.ntmps70
 go_wp2
 go_end0
 go_wp2
 go_end0
 exact ⟨rfl,rfl⟩
theorem Tryz.lock_free (a : Addr) (w : World) (hc : w.cell? a=some (.int .i32 0)) (hz : w.frozen? a=false) :
 Calls Tryz.prog 69 #[.pointer (some a)] w fun e w' => e=.returned (.tuple #[])∧w'=w.setCell a (.int .i32 1):=by
 have hd:=Tryz.disable
 have he:=Tryz.enable
 have ha:=Tryz.acquire
 have hcas:=run_call_cas_hit (P:=Tryz.prog) Tryz.func83 (by kernel_rfl) (by kernel_rfl) (by kernel_rfl) .i32 (by kernel_rfl) (y:=1) hc hz
 have hc' : (w.setCell a (.int .i32 1)).cell? a=some (.int .i32 1):=World.cell?_setCell_same w a _ hc
 have hcv:=run_convert_to_unsafe (P:=Tryz.prog) (src:=132) (dst:=136) Tryz.underlying132 Tryz.underlying136 (by kernel_rfl) hc'
 go_enter Tryz.func69,Tryz.ntmps69
 go_wp2
 first | go_end0 | (simp only [Exit.inBlock,Exit.then]; refine bodyPost_ret (results_none rfl _ _ _) rfl ?_) | refine bodyPost_ret (results_none rfl _ _ _) rfl ?_
 go_wp2
 go_end0
 exact ⟨rfl,rfl⟩
end Go.Proofs
