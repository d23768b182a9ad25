/- What functions of this program compute, over plain data. No condition. -/
import Derived.Test.YtiafnejjhnjbfaaGreatFQ1
import Derived.Test.YtiafnejjhnjbfaaGreatAbsBits
import Derived.Test.YtiafnejjhnjbfaaGreatFD2
import Derived.Test.YtiafnejjhnjbfaaGreatFQ3
set_option linter.all false
namespace Abs.Y
open Go Go.Proofs Abs
open Nat renaming reduceEqDiff -> Qa, reduceLT -> Qb, reduceAdd -> Qc, reduceMul -> Qd, reduceSub -> Qe, reduceLeDiff -> Qf, reduceSubDiff -> Qg, reduceBEq -> Qh
open Bool renaming not_eq_true' -> Ba, not_eq_false' -> Bb, and_eq_true -> Bc, or_eq_true -> Bh, or_eq_false_iff -> Be
open Int renaming ofNat_lt -> Ia, ofNat_le -> Ib, not_lt -> Ic, not_le -> Ie
open Decidable renaming not_not -> Da
set_option maxRecDepth 100000
set_option maxHeartbeats 8000000 in
theorem l22Signed_ok : ∀ (x : Fm) (p : Bool),x.wf=true->x.T.size<=100000->Ctr Tryz.prog 26 [.str x.T,.bool p] true (.d (.str (x.sg p).T)) []
 | .lf c, p, hw, hs => by
   have c2:=l22Parts_ok (.lf c) hw (by omega)
   have c2 : Ctr Tryz.prog 46 [.str (Fm.lf c).T] true (.tup [.d (.int .u8 c.toNat),.d (.str ⟨#[]⟩),.d (.str ⟨#[]⟩)]) []:=c2
   by_cases hc : c=48∨c=49
   . rw [Fm.sg,if_pos hc]
     rcases hc with rfl | rfl
     . rw [show ((48 : UInt8).toNat : Int)=48 from rfl] at c2
       cases p with
       | true =>
         rw [if_pos rfl]
         have ht : (Fm.lf 48).T=⟨#[48]⟩:=rfl
         rw [ht] at c2 ⊢
         refine Ctr.of (n:=101) (rs:=[.tmp 4]) Tryz.func26 rfl rfl Tryz.ntmps26 rfl rfl (by kernel_rfl) Tryz.checked.mixed ?_
         simp (disch:=first | omega | decide +kernel) only [go_sem,Qa,Qb,Qc,Qd,Qe,↓reduceIte,reduceCtorEq,Qf,Qg,Qh]
         (repeat' (first | ((first | (refine gsel_split (fun q' => ?_) (fun q' => ?_)<;>(have h':=q')<;>(try simp only [za1,za2,Ba,Bb,za3,ne_eq,za4,za5,za6,Ia,Ib,Ic,Ie,Da,Bc,Bh,Be,za7,za8] at h')<;>try (exfalso; omega)) | (have q':=trivial; first | refine callX_shared (c2) rfl (by decide) ?_ | refine callY_shared (c2) rfl ?_ | refine hE _ _ ret_ne ?_ | refine hE _ _ exit_ne ?_))<;>(try simp (disch:=first | omega | decide +kernel) only [q',go_sem,Qa,Qb,Qc,Qd,Qe,↓reduceIte,reduceCtorEq,Qf,Qg,Qh])<;>clear q') | refine hN _ ?_ ?_ Wk.kk | with_reducible refine And.intro ?_ ?_ | with_reducible omega | exact ok_ints | exact cells_ints | exact no_mem | with_reducible exact plain_ints | (refine le_maxLen ?_; omega) | (refine za9 ⟨?_,?_⟩) | (simp only [go_sem,Qc,Qb,zb1,zb2,forall_eq]; done)))
         all_goals (first | omega | assumption | rfl | exact absurd trivial ‹¬True› | exact ret_s1 [] rfl)
       | false =>
         rw [if_neg (by simp),show (97 : UInt8) - 48=49 from rfl]
         have ht : (Fm.lf 48).T=⟨#[48]⟩:=rfl
         have hu : (Fm.lf 49).T=⟨#[49]⟩:=rfl
         rw [hu]
         rw [ht] at c2 ⊢
         refine Ctr.of (n:=101) (rs:=[.tmp 4]) Tryz.func26 rfl rfl Tryz.ntmps26 rfl rfl (by kernel_rfl) Tryz.checked.mixed ?_
         simp (disch:=first | omega | decide +kernel) only [go_sem,Qa,Qb,Qc,Qd,Qe,↓reduceIte,reduceCtorEq,Qf,Qg,Qh]
         (repeat' (first | ((first | (refine gsel_split (fun q' => ?_) (fun q' => ?_)<;>(have h':=q')<;>(try simp only [za1,za2,Ba,Bb,za3,ne_eq,za4,za5,za6,Ia,Ib,Ic,Ie,Da,Bc,Bh,Be,za7,za8] at h')<;>try (exfalso; omega)) | (have q':=trivial; first | refine callX_shared (c2) rfl (by decide) ?_ | refine callY_shared (c2) rfl ?_ | refine hE _ _ ret_ne ?_ | refine hE _ _ exit_ne ?_))<;>(try simp (disch:=first | omega | decide +kernel) only [q',go_sem,Qa,Qb,Qc,Qd,Qe,↓reduceIte,reduceCtorEq,Qf,Qg,Qh])<;>clear q') | refine hN _ ?_ ?_ Wk.kk | with_reducible refine And.intro ?_ ?_ | with_reducible omega | exact ok_ints | exact cells_ints | exact no_mem | with_reducible exact plain_ints | (refine le_maxLen ?_; omega) | (refine za9 ⟨?_,?_⟩) | (simp only [go_sem,Qc,Qb,zb1,zb2,forall_eq]; done)))
         all_goals (first | omega | assumption | rfl | exact absurd trivial ‹¬True› | exact ret_s1 [] rfl)
     . rw [show ((49 : UInt8).toNat : Int)=49 from rfl] at c2
       cases p with
       | true =>
         rw [if_pos rfl]
         have ht : (Fm.lf 49).T=⟨#[49]⟩:=rfl
         rw [ht] at c2 ⊢
         refine Ctr.of (n:=101) (rs:=[.tmp 4]) Tryz.func26 rfl rfl Tryz.ntmps26 rfl rfl (by kernel_rfl) Tryz.checked.mixed ?_
         simp (disch:=first | omega | decide +kernel) only [go_sem,Qa,Qb,Qc,Qd,Qe,↓reduceIte,reduceCtorEq,Qf,Qg,Qh]
         (repeat' (first | ((first | (refine gsel_split (fun q' => ?_) (fun q' => ?_)<;>(have h':=q')<;>(try simp only [za1,za2,Ba,Bb,za3,ne_eq,za4,za5,za6,Ia,Ib,Ic,Ie,Da,Bc,Bh,Be,za7,za8] at h')<;>try (exfalso; omega)) | (have q':=trivial; first | refine callX_shared (c2) rfl (by decide) ?_ | refine callY_shared (c2) rfl ?_ | refine hE _ _ ret_ne ?_ | refine hE _ _ exit_ne ?_))<;>(try simp (disch:=first | omega | decide +kernel) only [q',go_sem,Qa,Qb,Qc,Qd,Qe,↓reduceIte,reduceCtorEq,Qf,Qg,Qh])<;>clear q') | refine hN _ ?_ ?_ Wk.kk | with_reducible refine And.intro ?_ ?_ | with_reducible omega | exact ok_ints | exact cells_ints | exact no_mem | with_reducible exact plain_ints | (refine le_maxLen ?_; omega) | (refine za9 ⟨?_,?_⟩) | (simp only [go_sem,Qc,Qb,zb1,zb2,forall_eq]; done)))
         all_goals (first | omega | assumption | rfl | exact absurd trivial ‹¬True› | exact ret_s1 [] rfl)
       | false =>
         rw [if_neg (by simp),show (97 : UInt8) - 49=48 from rfl]
         have ht : (Fm.lf 49).T=⟨#[49]⟩:=rfl
         have hu : (Fm.lf 48).T=⟨#[48]⟩:=rfl
         rw [hu]
         rw [ht] at c2 ⊢
         refine Ctr.of (n:=101) (rs:=[.tmp 4]) Tryz.func26 rfl rfl Tryz.ntmps26 rfl rfl (by kernel_rfl) Tryz.checked.mixed ?_
         simp (disch:=first | omega | decide +kernel) only [go_sem,Qa,Qb,Qc,Qd,Qe,↓reduceIte,reduceCtorEq,Qf,Qg,Qh]
         (repeat' (first | ((first | (refine gsel_split (fun q' => ?_) (fun q' => ?_)<;>(have h':=q')<;>(try simp only [za1,za2,Ba,Bb,za3,ne_eq,za4,za5,za6,Ia,Ib,Ic,Ie,Da,Bc,Bh,Be,za7,za8] at h')<;>try (exfalso; omega)) | (have q':=trivial; first | refine callX_shared (c2) rfl (by decide) ?_ | refine callY_shared (c2) rfl ?_ | refine hE _ _ ret_ne ?_ | refine hE _ _ exit_ne ?_))<;>(try simp (disch:=first | omega | decide +kernel) only [q',go_sem,Qa,Qb,Qc,Qd,Qe,↓reduceIte,reduceCtorEq,Qf,Qg,Qh])<;>clear q') | refine hN _ ?_ ?_ Wk.kk | with_reducible refine And.intro ?_ ?_ | with_reducible omega | exact ok_ints | exact cells_ints | exact no_mem | with_reducible exact plain_ints | (refine le_maxLen ?_; omega) | (refine za9 ⟨?_,?_⟩) | (simp only [go_sem,Qc,Qb,zb1,zb2,forall_eq]; done)))
         all_goals (first | omega | assumption | rfl | exact absurd trivial ‹¬True› | exact ret_s1 [] rfl)
   . rw [Fm.sg,if_neg hc]
     have h2:=lf_ne hw
     have hl : 97<=(c.toNat : Int):=by
      have hL : isLet c=true:=by
       have h3 : isLf c=true:=hw
       rw [isLf,Bh,decide_eq_true_eq] at h3
       exact h3.resolve_left hc
      have h4:=of_decide_eq_true hL
      rw [UInt8.le_iff_toNat_le,UInt8.le_iff_toNat_le] at h4
      have e1 : (97 : UInt8).toNat=97:=rfl
      omega
     have g6 : ¬ (c.toNat : Int)=126:=fun h => h2.1 (toN_eq.1 h)
     have g0 : ¬ (c.toNat : Int)=48:=by omega
     have g1 : ¬ (c.toNat : Int)=49:=by omega
     have g2 : ¬ (c.toNat : Int)=38:=by omega
     have g3 : ¬ (c.toNat : Int)=124:=fun h => by
      have : c=124:=toN_eq.1 h
      subst this; exact absurd hw (by decide)
     have g4 : ¬ (c.toNat : Int)=62:=by omega
     have z1 : (ByteArray.mk #[126]).size=1:=rfl
     have en:=T_ng (.lf c)
     cases p with
     | true =>
       rw [if_pos rfl]
       generalize (Fm.lf c).T=t at *
       refine Ctr.of (n:=101) (rs:=[.tmp 4]) Tryz.func26 rfl rfl Tryz.ntmps26 rfl rfl (by kernel_rfl) Tryz.checked.mixed ?_
       simp (disch:=first | omega | decide +kernel) only [g0,g1,g2,g3,g4,g6,go_sem,Qa,Qb,Qc,Qd,Qe,↓reduceIte,reduceCtorEq,Qf,Qg,Qh]
       (repeat' (first | ((first | (refine gsel_split (fun q' => ?_) (fun q' => ?_)<;>(have h':=q')<;>(try simp only [za1,za2,Ba,Bb,za3,ne_eq,za4,za5,za6,Ia,Ib,Ic,Ie,Da,Bc,Bh,Be,za7,za8] at h')<;>try (exfalso; omega)) | (have q':=trivial; first | refine callX_shared (c2) rfl (by decide) ?_ | refine callY_shared (c2) rfl ?_ | refine hE _ _ ret_ne ?_ | refine hE _ _ exit_ne ?_))<;>(try simp (disch:=first | omega | decide +kernel) only [q',g0,g1,g2,g3,g4,g6,go_sem,Qa,Qb,Qc,Qd,Qe,↓reduceIte,reduceCtorEq,Qf,Qg,Qh])<;>clear q') | refine hN _ ?_ ?_ Wk.kk | with_reducible refine And.intro ?_ ?_ | with_reducible omega | exact ok_ints | exact cells_ints | exact no_mem | with_reducible exact plain_ints | (refine le_maxLen ?_; omega) | (refine za9 ⟨?_,?_⟩) | (simp only [go_sem,Qc,Qb,zb1,zb2,forall_eq]; done)))
       all_goals (first | omega | assumption | rfl | exact absurd trivial ‹¬True› | exact ret_s1 [] rfl)
     | false =>
       rw [if_neg (by simp)]
       generalize (Fm.ng (Fm.lf c)).T=z at *
       generalize (Fm.lf c).T=t at *
       refine Ctr.of (n:=101) (rs:=[.tmp 4]) Tryz.func26 rfl rfl Tryz.ntmps26 rfl rfl (by kernel_rfl) Tryz.checked.mixed ?_
       simp (disch:=first | omega | decide +kernel) only [g0,g1,g2,g3,g4,g6,en,go_sem,Qa,Qb,Qc,Qd,Qe,↓reduceIte,reduceCtorEq,Qf,Qg,Qh]
       (repeat' (first | ((first | (refine gsel_split (fun q' => ?_) (fun q' => ?_)<;>(have h':=q')<;>(try simp only [za1,za2,Ba,Bb,za3,ne_eq,za4,za5,za6,Ia,Ib,Ic,Ie,Da,Bc,Bh,Be,za7,za8] at h')<;>try (exfalso; omega)) | (have q':=trivial; first | refine callX_shared (c2) rfl (by decide) ?_ | refine callY_shared (c2) rfl ?_ | refine hE _ _ ret_ne ?_ | refine hE _ _ exit_ne ?_))<;>(try simp (disch:=first | omega | decide +kernel) only [q',g0,g1,g2,g3,g4,g6,en,z1,go_sem,Qa,Qb,Qc,Qd,Qe,↓reduceIte,reduceCtorEq,Qf,Qg,Qh])<;>clear q') | refine hN _ ?_ ?_ Wk.kk | with_reducible refine And.intro ?_ ?_ | with_reducible omega | exact ok_ints | exact cells_ints | exact no_mem | with_reducible exact plain_ints | (refine le_maxLen ?_; omega) | (refine za9 ⟨?_,?_⟩) | (simp only [go_sem,Qc,Qb,zb1,zb2,forall_eq]; done)))
       all_goals (first | omega | assumption | rfl | exact absurd trivial ‹¬True› | exact ret_s1 [] rfl)
 | .ng a, p, hw, hs => by
   have c2:=l22Parts_ok (.ng a) hw (by omega)
   have c2 : Ctr Tryz.prog 46 [.str (Fm.ng a).T] true (.tup [.d (.int .u8 126),.d (.str a.T),.d (.str ⟨#[]⟩)]) []:=c2
   rw [size_ng] at hs
   have c1:=l22Signed_ok a (!p) hw (by omega)
   rw [Fm.sg]
   generalize (a.sg (!p)).T=z at *
   generalize a.T=ta at *
   generalize (Fm.ng a).T=t at *
   refine Ctr.of (n:=101) (rs:=[.tmp 4]) Tryz.func26 rfl rfl Tryz.ntmps26 rfl rfl (by kernel_rfl) Tryz.checked.mixed ?_
   simp (disch:=first | omega | decide +kernel) only [go_sem,Qa,Qb,Qc,Qd,Qe,↓reduceIte,reduceCtorEq,Qf,Qg,Qh]
   (repeat' (first | ((first | (refine gsel_split (fun q' => ?_) (fun q' => ?_)<;>(have h':=q')<;>(try simp only [za1,za2,Ba,Bb,za3,ne_eq,za4,za5,za6,Ia,Ib,Ic,Ie,Da,Bc,Bh,Be,za7,za8] at h')<;>try (exfalso; omega)) | (have q':=trivial; first | refine callX_shared (c2) rfl (by decide) ?_ | refine callY_shared (c2) rfl ?_ | refine callX_shared (c1) rfl (by decide) ?_ | refine callY_shared (c1) rfl ?_ | refine hE _ _ ret_ne ?_ | refine hE _ _ exit_ne ?_))<;>(try simp (disch:=first | omega | decide +kernel) only [q',go_sem,Qa,Qb,Qc,Qd,Qe,↓reduceIte,reduceCtorEq,Qf,Qg,Qh])<;>clear q') | refine hN _ ?_ ?_ Wk.kk | with_reducible refine And.intro ?_ ?_ | with_reducible omega | exact ok_ints | exact cells_ints | exact no_mem | with_reducible exact plain_ints | (refine le_maxLen ?_; omega) | (refine za9 ⟨?_,?_⟩) | (simp only [go_sem,Qc,Qb,zb1,zb2,forall_eq]; done)))
   all_goals (first | omega | assumption | rfl | exact absurd trivial ‹¬True› | exact ret_s1 [] rfl)
 | .jn o a b, p, hw, hs => by
   have c0:=l22Parts_ok (.jn o a b) hw (by omega)
   have c0 : Ctr Tryz.prog 46 [.str (Fm.jn o a b).T] true (.tup [.d (.int .u8 o.toNat),.d (.str a.T),.d (.str b.T)]) []:=c0
   have hw' : (isOp o && a.wf && b.wf)=true:=hw
   simp only [Bc] at hw'
   rw [size_jn] at hs
   rcases of_decide_eq_true hw'.1.1 with rfl | rfl | rfl
   . cases p with
     | true =>
       have c1:=l22Signed_ok a true hw'.1.2 (by omega)
       have c2:=l22Signed_ok b true hw'.2 (by omega)
       have z1:=sg_sz a true
       have z2:=sg_sz b true
       have c3:=l22Join_ok ⟨#[38]⟩ (a.sg true).T (b.sg true).T (by decide) (by omega) (by omega)
       rw [T_jn] at c3
       have hx : (Fm.jn 38 a b).sg true=.jn 38 (a.sg true) (b.sg true):=rfl
       rw [hx]
       rw [show ((38 : UInt8).toNat : Int)=38 from rfl] at c0
       generalize (Fm.jn 38 (a.sg true) (b.sg true)).T=z at *
       generalize (a.sg true).T=x1 at *
       generalize (b.sg true).T=x2 at *
       generalize a.T=xa at *
       generalize b.T=xb at *
       generalize (Fm.jn 38 a b).T=t at *
       refine Ctr.of (n:=101) (rs:=[.tmp 4]) Tryz.func26 rfl rfl Tryz.ntmps26 rfl rfl (by kernel_rfl) Tryz.checked.mixed ?_
       simp (disch:=first | omega | decide +kernel) only [go_sem,Qa,Qb,Qc,Qd,Qe,↓reduceIte,reduceCtorEq,Qf,Qg,Qh]
       (repeat' (first | ((first | (refine gsel_split (fun q' => ?_) (fun q' => ?_)<;>(have h':=q')<;>(try simp only [za1,za2,Ba,Bb,za3,ne_eq,za4,za5,za6,Ia,Ib,Ic,Ie,Da,Bc,Bh,Be,za7,za8] at h')<;>try (exfalso; omega)) | (have q':=trivial; first | refine callX_shared (c0) rfl (by decide) ?_ | refine callY_shared (c0) rfl ?_ | refine callX_shared (c1) rfl (by decide) ?_ | refine callY_shared (c1) rfl ?_ | refine callX_shared (c2) rfl (by decide) ?_ | refine callY_shared (c2) rfl ?_ | refine callX_new (c3) rfl (by decide) ?_ | refine callY_new (c3) rfl ?_ | refine hE _ _ ret_ne ?_ | refine hE _ _ exit_ne ?_))<;>(try simp (disch:=first | omega | decide +kernel) only [q',go_sem,Qa,Qb,Qc,Qd,Qe,↓reduceIte,reduceCtorEq,Qf,Qg,Qh])<;>clear q') | refine hN _ ?_ ?_ Wk.kk | with_reducible refine And.intro ?_ ?_ | with_reducible omega | exact ok_ints | exact cells_ints | exact no_mem | with_reducible exact plain_ints | (refine le_maxLen ?_; omega) | (refine za9 ⟨?_,?_⟩) | (simp only [go_sem,Qc,Qb,zb1,zb2,forall_eq]; done)))
       all_goals (first | omega | assumption | rfl | exact absurd trivial ‹¬True› | exact ret_s1 [] rfl)
     | false =>
       have c1:=l22Signed_ok a false hw'.1.2 (by omega)
       have c2:=l22Signed_ok b false hw'.2 (by omega)
       have z1:=sg_sz a false
       have z2:=sg_sz b false
       have c3:=l22Join_ok ⟨#[124]⟩ (a.sg false).T (b.sg false).T (by decide) (by omega) (by omega)
       rw [T_jn] at c3
       have hx : (Fm.jn 38 a b).sg false=.jn 124 (a.sg false) (b.sg false):=rfl
       rw [hx]
       rw [show ((38 : UInt8).toNat : Int)=38 from rfl] at c0
       generalize (Fm.jn 124 (a.sg false) (b.sg false)).T=z at *
       generalize (a.sg false).T=x1 at *
       generalize (b.sg false).T=x2 at *
       generalize a.T=xa at *
       generalize b.T=xb at *
       generalize (Fm.jn 38 a b).T=t at *
       refine Ctr.of (n:=101) (rs:=[.tmp 4]) Tryz.func26 rfl rfl Tryz.ntmps26 rfl rfl (by kernel_rfl) Tryz.checked.mixed ?_
       simp (disch:=first | omega | decide +kernel) only [go_sem,Qa,Qb,Qc,Qd,Qe,↓reduceIte,reduceCtorEq,Qf,Qg,Qh]
       (repeat' (first | ((first | (refine gsel_split (fun q' => ?_) (fun q' => ?_)<;>(have h':=q')<;>(try simp only [za1,za2,Ba,Bb,za3,ne_eq,za4,za5,za6,Ia,Ib,Ic,Ie,Da,Bc,Bh,Be,za7,za8] at h')<;>try (exfalso; omega)) | (have q':=trivial; first | refine callX_shared (c0) rfl (by decide) ?_ | refine callY_shared (c0) rfl ?_ | refine callX_shared (c1) rfl (by decide) ?_ | refine callY_shared (c1) rfl ?_ | refine callX_shared (c2) rfl (by decide) ?_ | refine callY_shared (c2) rfl ?_ | refine callX_new (c3) rfl (by decide) ?_ | refine callY_new (c3) rfl ?_ | refine hE _ _ ret_ne ?_ | refine hE _ _ exit_ne ?_))<;>(try simp (disch:=first | omega | decide +kernel) only [q',go_sem,Qa,Qb,Qc,Qd,Qe,↓reduceIte,reduceCtorEq,Qf,Qg,Qh])<;>clear q') | refine hN _ ?_ ?_ Wk.kk | with_reducible refine And.intro ?_ ?_ | with_reducible omega | exact ok_ints | exact cells_ints | exact no_mem | with_reducible exact plain_ints | (refine le_maxLen ?_; omega) | (refine za9 ⟨?_,?_⟩) | (simp only [go_sem,Qc,Qb,zb1,zb2,forall_eq]; done)))
       all_goals (first | omega | assumption | rfl | exact absurd trivial ‹¬True› | exact ret_s1 [] rfl)
   . cases p with
     | true =>
       have c1:=l22Signed_ok a true hw'.1.2 (by omega)
       have c2:=l22Signed_ok b true hw'.2 (by omega)
       have z1:=sg_sz a true
       have z2:=sg_sz b true
       have c3:=l22Join_ok ⟨#[124]⟩ (a.sg true).T (b.sg true).T (by decide) (by omega) (by omega)
       rw [T_jn] at c3
       have hx : (Fm.jn 124 a b).sg true=.jn 124 (a.sg true) (b.sg true):=rfl
       rw [hx]
       rw [show ((124 : UInt8).toNat : Int)=124 from rfl] at c0
       generalize (Fm.jn 124 (a.sg true) (b.sg true)).T=z at *
       generalize (a.sg true).T=x1 at *
       generalize (b.sg true).T=x2 at *
       generalize a.T=xa at *
       generalize b.T=xb at *
       generalize (Fm.jn 124 a b).T=t at *
       refine Ctr.of (n:=101) (rs:=[.tmp 4]) Tryz.func26 rfl rfl Tryz.ntmps26 rfl rfl (by kernel_rfl) Tryz.checked.mixed ?_
       simp (disch:=first | omega | decide +kernel) only [go_sem,Qa,Qb,Qc,Qd,Qe,↓reduceIte,reduceCtorEq,Qf,Qg,Qh]
       (repeat' (first | ((first | (refine gsel_split (fun q' => ?_) (fun q' => ?_)<;>(have h':=q')<;>(try simp only [za1,za2,Ba,Bb,za3,ne_eq,za4,za5,za6,Ia,Ib,Ic,Ie,Da,Bc,Bh,Be,za7,za8] at h')<;>try (exfalso; omega)) | (have q':=trivial; first | refine callX_shared (c0) rfl (by decide) ?_ | refine callY_shared (c0) rfl ?_ | refine callX_shared (c1) rfl (by decide) ?_ | refine callY_shared (c1) rfl ?_ | refine callX_shared (c2) rfl (by decide) ?_ | refine callY_shared (c2) rfl ?_ | refine callX_new (c3) rfl (by decide) ?_ | refine callY_new (c3) rfl ?_ | refine hE _ _ ret_ne ?_ | refine hE _ _ exit_ne ?_))<;>(try simp (disch:=first | omega | decide +kernel) only [q',go_sem,Qa,Qb,Qc,Qd,Qe,↓reduceIte,reduceCtorEq,Qf,Qg,Qh])<;>clear q') | refine hN _ ?_ ?_ Wk.kk | with_reducible refine And.intro ?_ ?_ | with_reducible omega | exact ok_ints | exact cells_ints | exact no_mem | with_reducible exact plain_ints | (refine le_maxLen ?_; omega) | (refine za9 ⟨?_,?_⟩) | (simp only [go_sem,Qc,Qb,zb1,zb2,forall_eq]; done)))
       all_goals (first | omega | assumption | rfl | exact absurd trivial ‹¬True› | exact ret_s1 [] rfl)
     | false =>
       have c1:=l22Signed_ok a false hw'.1.2 (by omega)
       have c2:=l22Signed_ok b false hw'.2 (by omega)
       have z1:=sg_sz a false
       have z2:=sg_sz b false
       have c3:=l22Join_ok ⟨#[38]⟩ (a.sg false).T (b.sg false).T (by decide) (by omega) (by omega)
       rw [T_jn] at c3
       have hx : (Fm.jn 124 a b).sg false=.jn 38 (a.sg false) (b.sg false):=rfl
       rw [hx]
       rw [show ((124 : UInt8).toNat : Int)=124 from rfl] at c0
       generalize (Fm.jn 38 (a.sg false) (b.sg false)).T=z at *
       generalize (a.sg false).T=x1 at *
       generalize (b.sg false).T=x2 at *
       generalize a.T=xa at *
       generalize b.T=xb at *
       generalize (Fm.jn 124 a b).T=t at *
       refine Ctr.of (n:=101) (rs:=[.tmp 4]) Tryz.func26 rfl rfl Tryz.ntmps26 rfl rfl (by kernel_rfl) Tryz.checked.mixed ?_
       simp (disch:=first | omega | decide +kernel) only [go_sem,Qa,Qb,Qc,Qd,Qe,↓reduceIte,reduceCtorEq,Qf,Qg,Qh]
       (repeat' (first | ((first | (refine gsel_split (fun q' => ?_) (fun q' => ?_)<;>(have h':=q')<;>(try simp only [za1,za2,Ba,Bb,za3,ne_eq,za4,za5,za6,Ia,Ib,Ic,Ie,Da,Bc,Bh,Be,za7,za8] at h')<;>try (exfalso; omega)) | (have q':=trivial; first | refine callX_shared (c0) rfl (by decide) ?_ | refine callY_shared (c0) rfl ?_ | refine callX_shared (c1) rfl (by decide) ?_ | refine callY_shared (c1) rfl ?_ | refine callX_shared (c2) rfl (by decide) ?_ | refine callY_shared (c2) rfl ?_ | refine callX_new (c3) rfl (by decide) ?_ | refine callY_new (c3) rfl ?_ | refine hE _ _ ret_ne ?_ | refine hE _ _ exit_ne ?_))<;>(try simp (disch:=first | omega | decide +kernel) only [q',go_sem,Qa,Qb,Qc,Qd,Qe,↓reduceIte,reduceCtorEq,Qf,Qg,Qh])<;>clear q') | refine hN _ ?_ ?_ Wk.kk | with_reducible refine And.intro ?_ ?_ | with_reducible omega | exact ok_ints | exact cells_ints | exact no_mem | with_reducible exact plain_ints | (refine le_maxLen ?_; omega) | (refine za9 ⟨?_,?_⟩) | (simp only [go_sem,Qc,Qb,zb1,zb2,forall_eq]; done)))
       all_goals (first | omega | assumption | rfl | exact absurd trivial ‹¬True› | exact ret_s1 [] rfl)
   . cases p with
     | true =>
       have c1:=l22Signed_ok a false hw'.1.2 (by omega)
       have c2:=l22Signed_ok b true hw'.2 (by omega)
       have z1:=sg_sz a false
       have z2:=sg_sz b true
       have c3:=l22Join_ok ⟨#[124]⟩ (a.sg false).T (b.sg true).T (by decide) (by omega) (by omega)
       rw [T_jn] at c3
       have hx : (Fm.jn 62 a b).sg true=.jn 124 (a.sg false) (b.sg true):=rfl
       rw [hx]
       rw [show ((62 : UInt8).toNat : Int)=62 from rfl] at c0
       generalize (Fm.jn 124 (a.sg false) (b.sg true)).T=z at *
       generalize (a.sg false).T=x1 at *
       generalize (b.sg true).T=x2 at *
       generalize a.T=xa at *
       generalize b.T=xb at *
       generalize (Fm.jn 62 a b).T=t at *
       refine Ctr.of (n:=101) (rs:=[.tmp 4]) Tryz.func26 rfl rfl Tryz.ntmps26 rfl rfl (by kernel_rfl) Tryz.checked.mixed ?_
       simp (disch:=first | omega | decide +kernel) only [go_sem,Qa,Qb,Qc,Qd,Qe,↓reduceIte,reduceCtorEq,Qf,Qg,Qh]
       (repeat' (first | ((first | (refine gsel_split (fun q' => ?_) (fun q' => ?_)<;>(have h':=q')<;>(try simp only [za1,za2,Ba,Bb,za3,ne_eq,za4,za5,za6,Ia,Ib,Ic,Ie,Da,Bc,Bh,Be,za7,za8] at h')<;>try (exfalso; omega)) | (have q':=trivial; first | refine callX_shared (c0) rfl (by decide) ?_ | refine callY_shared (c0) rfl ?_ | refine callX_shared (c1) rfl (by decide) ?_ | refine callY_shared (c1) rfl ?_ | refine callX_shared (c2) rfl (by decide) ?_ | refine callY_shared (c2) rfl ?_ | refine callX_new (c3) rfl (by decide) ?_ | refine callY_new (c3) rfl ?_ | refine hE _ _ ret_ne ?_ | refine hE _ _ exit_ne ?_))<;>(try simp (disch:=first | omega | decide +kernel) only [q',go_sem,Qa,Qb,Qc,Qd,Qe,↓reduceIte,reduceCtorEq,Qf,Qg,Qh])<;>clear q') | refine hN _ ?_ ?_ Wk.kk | with_reducible refine And.intro ?_ ?_ | with_reducible omega | exact ok_ints | exact cells_ints | exact no_mem | with_reducible exact plain_ints | (refine le_maxLen ?_; omega) | (refine za9 ⟨?_,?_⟩) | (simp only [go_sem,Qc,Qb,zb1,zb2,forall_eq]; done)))
       all_goals (first | omega | assumption | rfl | exact absurd trivial ‹¬True› | exact ret_s1 [] rfl)
     | false =>
       have c1:=l22Signed_ok a true hw'.1.2 (by omega)
       have c2:=l22Signed_ok b false hw'.2 (by omega)
       have z1:=sg_sz a true
       have z2:=sg_sz b false
       have c3:=l22Join_ok ⟨#[38]⟩ (a.sg true).T (b.sg false).T (by decide) (by omega) (by omega)
       rw [T_jn] at c3
       have hx : (Fm.jn 62 a b).sg false=.jn 38 (a.sg true) (b.sg false):=rfl
       rw [hx]
       rw [show ((62 : UInt8).toNat : Int)=62 from rfl] at c0
       generalize (Fm.jn 38 (a.sg true) (b.sg false)).T=z at *
       generalize (a.sg true).T=x1 at *
       generalize (b.sg false).T=x2 at *
       generalize a.T=xa at *
       generalize b.T=xb at *
       generalize (Fm.jn 62 a b).T=t at *
       refine Ctr.of (n:=101) (rs:=[.tmp 4]) Tryz.func26 rfl rfl Tryz.ntmps26 rfl rfl (by kernel_rfl) Tryz.checked.mixed ?_
       simp (disch:=first | omega | decide +kernel) only [go_sem,Qa,Qb,Qc,Qd,Qe,↓reduceIte,reduceCtorEq,Qf,Qg,Qh]
       (repeat' (first | ((first | (refine gsel_split (fun q' => ?_) (fun q' => ?_)<;>(have h':=q')<;>(try simp only [za1,za2,Ba,Bb,za3,ne_eq,za4,za5,za6,Ia,Ib,Ic,Ie,Da,Bc,Bh,Be,za7,za8] at h')<;>try (exfalso; omega)) | (have q':=trivial; first | refine callX_shared (c0) rfl (by decide) ?_ | refine callY_shared (c0) rfl ?_ | refine callX_shared (c1) rfl (by decide) ?_ | refine callY_shared (c1) rfl ?_ | refine callX_shared (c2) rfl (by decide) ?_ | refine callY_shared (c2) rfl ?_ | refine callX_new (c3) rfl (by decide) ?_ | refine callY_new (c3) rfl ?_ | refine hE _ _ ret_ne ?_ | refine hE _ _ exit_ne ?_))<;>(try simp (disch:=first | omega | decide +kernel) only [q',go_sem,Qa,Qb,Qc,Qd,Qe,↓reduceIte,reduceCtorEq,Qf,Qg,Qh])<;>clear q') | refine hN _ ?_ ?_ Wk.kk | with_reducible refine And.intro ?_ ?_ | with_reducible omega | exact ok_ints | exact cells_ints | exact no_mem | with_reducible exact plain_ints | (refine le_maxLen ?_; omega) | (refine za9 ⟨?_,?_⟩) | (simp only [go_sem,Qc,Qb,zb1,zb2,forall_eq]; done)))
       all_goals (first | omega | assumption | rfl | exact absurd trivial ‹¬True› | exact ret_s1 [] rfl)
end Abs.Y

namespace Abs.Y
open Go Go.Proofs Abs
open Nat renaming reduceEqDiff -> Qa, reduceLT -> Qb, reduceAdd -> Qc, reduceMul -> Qd, reduceSub -> Qe, reduceLeDiff -> Qf, reduceSubDiff -> Qg, reduceBEq -> Qh
open Bool renaming not_eq_true' -> Ba, not_eq_false' -> Bb, and_eq_true -> Bc, or_eq_true -> Bh, or_eq_false_iff -> Be
open Int renaming ofNat_lt -> Ia, ofNat_le -> Ib, not_lt -> Ic, not_le -> Ie
open Decidable renaming not_not -> Da
set_option maxRecDepth 100000

def letS (s : ByteArray) : Bool:=decide (s.size=1) && isLet ((BL s).getD 0 0)
noncomputable def giveS (s : ByteArray) : ByteArray:=if okS s then s else ⟨#[]⟩
theorem l22Give_ok (s : ByteArray) (hs : s.size<=1000000) : Ctr Tryz.prog 25 [.str s] true (.tup [.d (.str (giveS s)),.d (.bool (okS s))]) []:=by
 have c1:=l22Good_ok s hs
 rw [giveS]
 cases hk : okS s with
 | true =>
   rw [hk] at c1
   rw [if_pos rfl]
   refine Ctr.of (n:=8) (rs:=[.tmp 2,.tmp 3]) Tryz.func25 rfl rfl Tryz.ntmps25 rfl rfl (by kernel_rfl) Tryz.checked.mixed ?_
   simp (disch:=first | omega | decide +kernel) only [go_sem,Qa,Qb,Qc,Qd,Qe,↓reduceIte,reduceCtorEq,Qf,Qg,Qh]
   (repeat' (first | ((first | (refine gsel_split (fun q' => ?_) (fun q' => ?_)<;>(have h':=q')<;>(try simp only [za1,za2,Ba,Bb,za3,ne_eq,za4,za5,za6,Ia,Ib,Ic,Ie,Da,Bc,Bh,Be,za7,za8] at h')<;>try (exfalso; omega)) | (have q':=trivial; first | refine callX_new (c1) rfl (by decide) ?_ | refine callY_new (c1) rfl ?_ | refine hE _ _ ret_ne ?_ | refine hE _ _ exit_ne ?_))<;>(try simp (disch:=first | omega | decide +kernel) only [q',go_sem,Qa,Qb,Qc,Qd,Qe,↓reduceIte,reduceCtorEq,Qf,Qg,Qh])<;>clear q') | refine hN _ ?_ ?_ Wk.kk | with_reducible refine And.intro ?_ ?_ | with_reducible omega | exact ok_ints | exact cells_ints | exact no_mem | with_reducible exact plain_ints | (refine le_maxLen ?_; omega) | (refine za9 ⟨?_,?_⟩) | (simp only [go_sem,Qc,Qb,zb1,zb2,forall_eq]; done)))
   all_goals (first | omega | assumption | rfl | exact absurd trivial ‹¬True› | exact ret_s2 [] rfl rfl)
 | false =>
   rw [hk] at c1
   rw [if_neg (by simp)]
   refine Ctr.of (n:=8) (rs:=[.tmp 2,.tmp 3]) Tryz.func25 rfl rfl Tryz.ntmps25 rfl rfl (by kernel_rfl) Tryz.checked.mixed ?_
   simp (disch:=first | omega | decide +kernel) only [go_sem,Qa,Qb,Qc,Qd,Qe,↓reduceIte,reduceCtorEq,Qf,Qg,Qh]
   (repeat' (first | ((first | (refine gsel_split (fun q' => ?_) (fun q' => ?_)<;>(have h':=q')<;>(try simp only [za1,za2,Ba,Bb,za3,ne_eq,za4,za5,za6,Ia,Ib,Ic,Ie,Da,Bc,Bh,Be,za7,za8] at h')<;>try (exfalso; omega)) | (have q':=trivial; first | refine callX_new (c1) rfl (by decide) ?_ | refine callY_new (c1) rfl ?_ | refine hE _ _ ret_ne ?_ | refine hE _ _ exit_ne ?_))<;>(try simp (disch:=first | omega | decide +kernel) only [q',go_sem,Qa,Qb,Qc,Qd,Qe,↓reduceIte,reduceCtorEq,Qf,Qg,Qh])<;>clear q') | refine hN _ ?_ ?_ Wk.kk | with_reducible refine And.intro ?_ ?_ | with_reducible omega | exact ok_ints | exact cells_ints | exact no_mem | with_reducible exact plain_ints | (refine le_maxLen ?_; omega) | (refine za9 ⟨?_,?_⟩) | (simp only [go_sem,Qc,Qb,zb1,zb2,forall_eq]; done)))
   all_goals (first | omega | assumption | rfl | exact absurd trivial ‹¬True› | exact ret_s2 [] rfl rfl)
end Abs.Y
