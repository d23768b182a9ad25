/- What functions of this program compute, over plain data. No condition. -/
import Derived.Test.YtiafnejjhnjbfaaGreatFQ1
import Derived.Test.YtiafnejjhnjbfaaGreatAbsBox
set_option linter.all false
namespace Abs.Y
open Go Go.Proofs Abs
open Nat renaming reduceEqDiff -> Qa, reduceLT -> Qb, reduceAdd -> Qc, reduceMul -> Qd, reduceSub -> Qe, reduceLeDiff -> Qf, reduceSubDiff -> Qg, reduceBEq -> Qh
open Bool renaming not_eq_true' -> Ba, not_eq_false' -> Bb, and_eq_true -> Bc, or_eq_true -> Bh, or_eq_false_iff -> Be
open Int renaming ofNat_lt -> Ia, ofNat_le -> Ib, not_lt -> Ic, not_le -> Ie
open Decidable renaming not_not -> Da
set_option maxRecDepth 100000
set_option maxHeartbeats 8000000 in
theorem signed_ok : ∀ (x : Fm) (p : Bool),x.wf=true->x.T.size<=100000->Ctr Tryz.prog 22 [fmD x,.bool p] true (.d (fmD (x.sg p))) []
 | .lf c, p, hw, hs => by
   have hf : fmD (.lf c)=.ptr (.agg [.int .u8 c.toNat,.nilptr,.nilptr,.str (Fm.lf c).T]):=rfl
   by_cases hc : c=48∨c=49
   . rw [Fm.sg,if_pos hc]
     rcases hc with rfl | rfl
     . have c1:=leaf_ok 49 (by decide)
       rw [show ((49 : UInt8).toNat : Int)=49 from rfl] at c1
       have hw0 : IntKind.u8.wrap (97 - 48)=49:=by decide
       have hn : ((48 : UInt8).toNat : Int)=48:=rfl
       cases p with
       | true =>
         rw [if_pos rfl,hf,hn]
         generalize (Fm.lf 48).T=t at *
         refine Ctr.of (n:=84) (rs:=[.tmp 4]) Tryz.func22 rfl rfl Tryz.ntmps22 rfl rfl (by kernel_rfl) Tryz.checked.mixed ?_
         simp (disch:=first | omega | decide +kernel) only [go_sem,Qa,Qb,Qc,Qd,Qe,↓reduceIte,reduceCtorEq,Qf,Qg,Qh]
         (repeat' (first | ((first | (refine gsel_split (fun q' => ?_) (fun q' => ?_)<;>(have h':=q')<;>(try simp only [za1,za2,Ba,Bb,za3,ne_eq,za4,za5,za6,Ia,Ib,Ic,Ie,Da,Bc,Bh,Be,za7,za8] at h')<;>try (exfalso; omega)) | (have q':=trivial; first | refine hE _ _ ret_ne ?_ | refine hE _ _ exit_ne ?_))<;>(try simp (disch:=first | omega | decide +kernel) only [q',go_sem,Qa,Qb,Qc,Qd,Qe,↓reduceIte,reduceCtorEq,Qf,Qg,Qh])<;>clear q') | refine hN _ ?_ ?_ Wk.kk | with_reducible refine And.intro ?_ ?_ | with_reducible omega | exact ok_ints | exact cells_ints | exact no_mem | with_reducible exact plain_ints | (refine le_maxLen ?_; omega) | (refine za9 ⟨?_,?_⟩) | (simp only [go_sem,Qc,Qb,zb1,zb2,forall_eq]; done)))
         all_goals (first | omega | assumption | rfl | exact absurd trivial ‹¬True› | exact ret_s1 [] rfl)
       | false =>
         rw [if_neg (by simp),hf,hn,show (97 : UInt8) - 48=49 from rfl]
         generalize (Fm.lf 48).T=t at *
         generalize fmD (Fm.lf 49)=z at *
         refine Ctr.of (n:=84) (rs:=[.tmp 4]) Tryz.func22 rfl rfl Tryz.ntmps22 rfl rfl (by kernel_rfl) Tryz.checked.mixed ?_
         simp (disch:=first | omega | decide +kernel) only [hw0,go_sem,Qa,Qb,Qc,Qd,Qe,↓reduceIte,reduceCtorEq,Qf,Qg,Qh]
         (repeat' (first | ((first | (refine gsel_split (fun q' => ?_) (fun q' => ?_)<;>(have h':=q')<;>(try simp only [za1,za2,Ba,Bb,za3,ne_eq,za4,za5,za6,Ia,Ib,Ic,Ie,Da,Bc,Bh,Be,za7,za8] at h')<;>try (exfalso; omega)) | (have q':=trivial; first | refine callX_shared (c1) rfl (by decide) ?_ | refine callY_shared (c1) rfl ?_ | refine hE _ _ ret_ne ?_ | refine hE _ _ exit_ne ?_))<;>(try simp (disch:=first | omega | decide +kernel) only [q',hw0,go_sem,Qa,Qb,Qc,Qd,Qe,↓reduceIte,reduceCtorEq,Qf,Qg,Qh])<;>clear q') | refine hN _ ?_ ?_ Wk.kk | with_reducible refine And.intro ?_ ?_ | with_reducible omega | exact ok_ints | exact cells_ints | exact no_mem | with_reducible exact plain_ints | (refine le_maxLen ?_; omega) | (refine za9 ⟨?_,?_⟩) | (simp only [go_sem,Qc,Qb,zb1,zb2,forall_eq]; done)))
         all_goals (first | omega | assumption | rfl | exact absurd trivial ‹¬True› | exact ret_s1 [] rfl)
     . have c1:=leaf_ok 48 (by decide)
       rw [show ((48 : UInt8).toNat : Int)=48 from rfl] at c1
       have hw0 : IntKind.u8.wrap (97 - 49)=48:=by decide
       have hn : ((49 : UInt8).toNat : Int)=49:=rfl
       cases p with
       | true =>
         rw [if_pos rfl,hf,hn]
         generalize (Fm.lf 49).T=t at *
         refine Ctr.of (n:=84) (rs:=[.tmp 4]) Tryz.func22 rfl rfl Tryz.ntmps22 rfl rfl (by kernel_rfl) Tryz.checked.mixed ?_
         simp (disch:=first | omega | decide +kernel) only [go_sem,Qa,Qb,Qc,Qd,Qe,↓reduceIte,reduceCtorEq,Qf,Qg,Qh]
         (repeat' (first | ((first | (refine gsel_split (fun q' => ?_) (fun q' => ?_)<;>(have h':=q')<;>(try simp only [za1,za2,Ba,Bb,za3,ne_eq,za4,za5,za6,Ia,Ib,Ic,Ie,Da,Bc,Bh,Be,za7,za8] at h')<;>try (exfalso; omega)) | (have q':=trivial; first | refine hE _ _ ret_ne ?_ | refine hE _ _ exit_ne ?_))<;>(try simp (disch:=first | omega | decide +kernel) only [q',go_sem,Qa,Qb,Qc,Qd,Qe,↓reduceIte,reduceCtorEq,Qf,Qg,Qh])<;>clear q') | refine hN _ ?_ ?_ Wk.kk | with_reducible refine And.intro ?_ ?_ | with_reducible omega | exact ok_ints | exact cells_ints | exact no_mem | with_reducible exact plain_ints | (refine le_maxLen ?_; omega) | (refine za9 ⟨?_,?_⟩) | (simp only [go_sem,Qc,Qb,zb1,zb2,forall_eq]; done)))
         all_goals (first | omega | assumption | rfl | exact absurd trivial ‹¬True› | exact ret_s1 [] rfl)
       | false =>
         rw [if_neg (by simp),hf,hn,show (97 : UInt8) - 49=48 from rfl]
         generalize (Fm.lf 49).T=t at *
         generalize fmD (Fm.lf 48)=z at *
         refine Ctr.of (n:=84) (rs:=[.tmp 4]) Tryz.func22 rfl rfl Tryz.ntmps22 rfl rfl (by kernel_rfl) Tryz.checked.mixed ?_
         simp (disch:=first | omega | decide +kernel) only [hw0,go_sem,Qa,Qb,Qc,Qd,Qe,↓reduceIte,reduceCtorEq,Qf,Qg,Qh]
         (repeat' (first | ((first | (refine gsel_split (fun q' => ?_) (fun q' => ?_)<;>(have h':=q')<;>(try simp only [za1,za2,Ba,Bb,za3,ne_eq,za4,za5,za6,Ia,Ib,Ic,Ie,Da,Bc,Bh,Be,za7,za8] at h')<;>try (exfalso; omega)) | (have q':=trivial; first | refine callX_shared (c1) rfl (by decide) ?_ | refine callY_shared (c1) rfl ?_ | refine hE _ _ ret_ne ?_ | refine hE _ _ exit_ne ?_))<;>(try simp (disch:=first | omega | decide +kernel) only [q',hw0,go_sem,Qa,Qb,Qc,Qd,Qe,↓reduceIte,reduceCtorEq,Qf,Qg,Qh])<;>clear q') | refine hN _ ?_ ?_ Wk.kk | with_reducible refine And.intro ?_ ?_ | with_reducible omega | exact ok_ints | exact cells_ints | exact no_mem | with_reducible exact plain_ints | (refine le_maxLen ?_; omega) | (refine za9 ⟨?_,?_⟩) | (simp only [go_sem,Qc,Qb,zb1,zb2,forall_eq]; done)))
         all_goals (first | omega | assumption | rfl | exact absurd trivial ‹¬True› | exact ret_s1 [] rfl)
   . rw [Fm.sg,if_neg hc]
     have c1:=not_ok (.lf c) (by omega)
     have h2:=lf_ne hw
     have hl : 97<=(c.toNat : Int):=by
      have hL : isLet c=true:=by
       have h3 : isLf c=true:=hw
       rw [isLf,Bh,decide_eq_true_eq] at h3
       exact h3.resolve_left hc
      have h4:=of_decide_eq_true hL
      rw [UInt8.le_iff_toNat_le,UInt8.le_iff_toNat_le] at h4
      have e1 : (97 : UInt8).toNat=97:=rfl
      omega
     have g6 : ¬ (c.toNat : Int)=126:=fun h => h2.1 (toN_eq.1 h)
     have g0 : ¬ (c.toNat : Int)=48:=by omega
     have g1 : ¬ (c.toNat : Int)=49:=by omega
     have g2 : ¬ (c.toNat : Int)=38:=by omega
     have g3 : ¬ (c.toNat : Int)=124:=fun h => by
      have : c=124:=toN_eq.1 h
      subst this; exact absurd hw (by decide)
     have g4 : ¬ (c.toNat : Int)=62:=by omega
     rw [hf] at c1 ⊢
     obtain ⟨z,hz⟩ : ∃ z,fmD (Fm.ng (Fm.lf c))=z:=⟨_,rfl⟩
     rw [hz] at c1
     generalize (Fm.lf c).T=t at *
     cases p with
     | true =>
       rw [if_pos rfl,hf]
       refine Ctr.of (n:=84) (rs:=[.tmp 4]) Tryz.func22 rfl rfl Tryz.ntmps22 rfl rfl (by kernel_rfl) Tryz.checked.mixed ?_
       simp (disch:=first | omega | decide +kernel) only [g0,g1,g2,g3,g4,g6,go_sem,Qa,Qb,Qc,Qd,Qe,↓reduceIte,reduceCtorEq,Qf,Qg,Qh]
       (repeat' (first | ((first | (refine gsel_split (fun q' => ?_) (fun q' => ?_)<;>(have h':=q')<;>(try simp only [za1,za2,Ba,Bb,za3,ne_eq,za4,za5,za6,Ia,Ib,Ic,Ie,Da,Bc,Bh,Be,za7,za8] at h')<;>try (exfalso; omega)) | (have q':=trivial; first | refine hE _ _ ret_ne ?_ | refine hE _ _ exit_ne ?_))<;>(try simp (disch:=first | omega | decide +kernel) only [q',g0,g1,g2,g3,g4,g6,go_sem,Qa,Qb,Qc,Qd,Qe,↓reduceIte,reduceCtorEq,Qf,Qg,Qh])<;>clear q') | refine hN _ ?_ ?_ Wk.kk | with_reducible refine And.intro ?_ ?_ | with_reducible omega | exact ok_ints | exact cells_ints | exact no_mem | with_reducible exact plain_ints | (refine le_maxLen ?_; omega) | (refine za9 ⟨?_,?_⟩) | (simp only [go_sem,Qc,Qb,zb1,zb2,forall_eq]; done)))
       all_goals (first | omega | assumption | rfl | exact absurd trivial ‹¬True› | exact ret_s1 [] rfl)
     | false =>
       rw [if_neg (by simp),hz]
       refine Ctr.of (n:=84) (rs:=[.tmp 4]) Tryz.func22 rfl rfl Tryz.ntmps22 rfl rfl (by kernel_rfl) Tryz.checked.mixed ?_
       simp (disch:=first | omega | decide +kernel) only [g0,g1,g2,g3,g4,g6,go_sem,Qa,Qb,Qc,Qd,Qe,↓reduceIte,reduceCtorEq,Qf,Qg,Qh]
       (repeat' (first | ((first | (refine gsel_split (fun q' => ?_) (fun q' => ?_)<;>(have h':=q')<;>(try simp only [za1,za2,Ba,Bb,za3,ne_eq,za4,za5,za6,Ia,Ib,Ic,Ie,Da,Bc,Bh,Be,za7,za8] at h')<;>try (exfalso; omega)) | (have q':=trivial; first | refine callX_shared (c1) rfl (by decide) ?_ | refine callY_shared (c1) rfl ?_ | refine hE _ _ ret_ne ?_ | refine hE _ _ exit_ne ?_))<;>(try simp (disch:=first | omega | decide +kernel) only [q',g0,g1,g2,g3,g4,g6,go_sem,Qa,Qb,Qc,Qd,Qe,↓reduceIte,reduceCtorEq,Qf,Qg,Qh])<;>clear q') | refine hN _ ?_ ?_ Wk.kk | with_reducible refine And.intro ?_ ?_ | with_reducible omega | exact ok_ints | exact cells_ints | exact no_mem | with_reducible exact plain_ints | (refine le_maxLen ?_; omega) | (refine za9 ⟨?_,?_⟩) | (simp only [go_sem,Qc,Qb,zb1,zb2,forall_eq]; done)))
       all_goals (first | omega | assumption | rfl | exact absurd trivial ‹¬True› | exact ret_s1 [] rfl)
 | .ng a, p, hw, hs => by
   rw [size_ng] at hs
   have c1:=signed_ok a (!p) hw (by omega)
   have n1:=fmD_na a
   have n2:=fmD_nc a
   rw [Fm.sg]
   have hf : fmD (.ng a)=.ptr (.agg [.int .u8 126,fmD a,.nilptr,.str (Fm.ng a).T]):=rfl
   rw [hf]
   generalize fmD (a.sg (!p))=z at *
   generalize fmD a=xa at *
   generalize (Fm.ng a).T=t at *
   refine Ctr.of (n:=84) (rs:=[.tmp 4]) Tryz.func22 rfl rfl Tryz.ntmps22 rfl rfl (by kernel_rfl) Tryz.checked.mixed ?_
   simp (disch:=first | omega | decide +kernel) only [go_sem,Qa,Qb,Qc,Qd,Qe,↓reduceIte,reduceCtorEq,Qf,Qg,Qh]
   (repeat' (first | ((first | (refine gsel_split (fun q' => ?_) (fun q' => ?_)<;>(have h':=q')<;>(try simp only [za1,za2,Ba,Bb,za3,ne_eq,za4,za5,za6,Ia,Ib,Ic,Ie,Da,Bc,Bh,Be,za7,za8] at h')<;>try (exfalso; omega)) | (have q':=trivial; first | refine callX_shared (c1) rfl (by decide) ?_ | refine callY_shared (c1) rfl ?_ | refine hE _ _ ret_ne ?_ | refine hE _ _ exit_ne ?_))<;>(try simp (disch:=first | omega | decide +kernel) only [q',go_sem,Qa,Qb,Qc,Qd,Qe,↓reduceIte,reduceCtorEq,Qf,Qg,Qh])<;>clear q') | refine hN _ ?_ ?_ Wk.kk | with_reducible refine And.intro ?_ ?_ | with_reducible omega | exact ok_ints | exact cells_ints | exact no_mem | with_reducible exact plain_ints | (refine le_maxLen ?_; omega) | (refine za9 ⟨?_,?_⟩) | (simp only [go_sem,Qc,Qb,zb1,zb2,forall_eq]; done)))
   all_goals (first | omega | assumption | rfl | exact absurd trivial ‹¬True› | exact ret_s1 [] rfl)
 | .jn o a b, p, hw, hs => by
   have hw' : (isOp o && a.wf && b.wf)=true:=hw
   simp only [Bc] at hw'
   rw [size_jn] at hs
   have n1:=fmD_na a
   have n2:=fmD_nc a
   have n3:=fmD_na b
   have n4:=fmD_nc b
   have w1 : IntKind.u8.wrap (162 - 38)=124:=by decide
   have w2 : IntKind.u8.wrap (162 - 124)=38:=by decide
   have hf : fmD (.jn o a b)=.ptr (.agg [.int .u8 o.toNat,fmD a,fmD b,.str (Fm.jn o a b).T]):=rfl
   rcases of_decide_eq_true hw'.1.1 with rfl | rfl | rfl
   . cases p with
     | true =>
       have c1:=signed_ok a true hw'.1.2 (by omega)
       have c2:=signed_ok b true hw'.2 (by omega)
       have z1:=sg_sz a true
       have z2:=sg_sz b true
       have c3:=join_ok 38 (a.sg true) (b.sg true) (by decide) (by omega) (by omega)
       rw [show ((38 : UInt8).toNat : Int)=38 from rfl] at c3
       have hx : (Fm.jn 38 a b).sg true=.jn 38 (a.sg true) (b.sg true):=rfl
       rw [hx,hf]
       rw [show ((38 : UInt8).toNat : Int)=38 from rfl]
       generalize fmD (Fm.jn 38 (a.sg true) (b.sg true))=z at *
       generalize fmD (a.sg true)=x1 at *
       generalize fmD (b.sg true)=x2 at *
       generalize fmD a=xa at *
       generalize fmD b=xb at *
       generalize (Fm.jn 38 a b).T=t at *
       refine Ctr.of (n:=84) (rs:=[.tmp 4]) Tryz.func22 rfl rfl Tryz.ntmps22 rfl rfl (by kernel_rfl) Tryz.checked.mixed ?_
       simp (disch:=first | omega | decide +kernel) only [w1,w2,go_sem,Qa,Qb,Qc,Qd,Qe,↓reduceIte,reduceCtorEq,Qf,Qg,Qh]
       (repeat' (first | ((first | (refine gsel_split (fun q' => ?_) (fun q' => ?_)<;>(have h':=q')<;>(try simp only [za1,za2,Ba,Bb,za3,ne_eq,za4,za5,za6,Ia,Ib,Ic,Ie,Da,Bc,Bh,Be,za7,za8] at h')<;>try (exfalso; omega)) | (have q':=trivial; first | refine callX_shared (c1) rfl (by decide) ?_ | refine callY_shared (c1) rfl ?_ | refine callX_shared (c2) rfl (by decide) ?_ | refine callY_shared (c2) rfl ?_ | refine callX_shared (c3) rfl (by decide) ?_ | refine callY_shared (c3) rfl ?_ | refine hE _ _ ret_ne ?_ | refine hE _ _ exit_ne ?_))<;>(try simp (disch:=first | omega | decide +kernel) only [q',w1,w2,go_sem,Qa,Qb,Qc,Qd,Qe,↓reduceIte,reduceCtorEq,Qf,Qg,Qh])<;>clear q') | refine hN _ ?_ ?_ Wk.kk | with_reducible refine And.intro ?_ ?_ | with_reducible omega | exact ok_ints | exact cells_ints | exact no_mem | with_reducible exact plain_ints | (refine le_maxLen ?_; omega) | (refine za9 ⟨?_,?_⟩) | (simp only [go_sem,Qc,Qb,zb1,zb2,forall_eq]; done)))
       all_goals (first | omega | assumption | rfl | exact absurd trivial ‹¬True› | exact ret_s1 [] rfl)
     | false =>
       have c1:=signed_ok a false hw'.1.2 (by omega)
       have c2:=signed_ok b false hw'.2 (by omega)
       have z1:=sg_sz a false
       have z2:=sg_sz b false
       have c3:=join_ok 124 (a.sg false) (b.sg false) (by decide) (by omega) (by omega)
       rw [show ((124 : UInt8).toNat : Int)=124 from rfl] at c3
       have hx : (Fm.jn 38 a b).sg false=.jn 124 (a.sg false) (b.sg false):=rfl
       rw [hx,hf]
       rw [show ((38 : UInt8).toNat : Int)=38 from rfl]
       generalize fmD (Fm.jn 124 (a.sg false) (b.sg false))=z at *
       generalize fmD (a.sg false)=x1 at *
       generalize fmD (b.sg false)=x2 at *
       generalize fmD a=xa at *
       generalize fmD b=xb at *
       generalize (Fm.jn 38 a b).T=t at *
       refine Ctr.of (n:=84) (rs:=[.tmp 4]) Tryz.func22 rfl rfl Tryz.ntmps22 rfl rfl (by kernel_rfl) Tryz.checked.mixed ?_
       simp (disch:=first | omega | decide +kernel) only [w1,w2,go_sem,Qa,Qb,Qc,Qd,Qe,↓reduceIte,reduceCtorEq,Qf,Qg,Qh]
       (repeat' (first | ((first | (refine gsel_split (fun q' => ?_) (fun q' => ?_)<;>(have h':=q')<;>(try simp only [za1,za2,Ba,Bb,za3,ne_eq,za4,za5,za6,Ia,Ib,Ic,Ie,Da,Bc,Bh,Be,za7,za8] at h')<;>try (exfalso; omega)) | (have q':=trivial; first | refine callX_shared (c1) rfl (by decide) ?_ | refine callY_shared (c1) rfl ?_ | refine callX_shared (c2) rfl (by decide) ?_ | refine callY_shared (c2) rfl ?_ | refine callX_shared (c3) rfl (by decide) ?_ | refine callY_shared (c3) rfl ?_ | refine hE _ _ ret_ne ?_ | refine hE _ _ exit_ne ?_))<;>(try simp (disch:=first | omega | decide +kernel) only [q',w1,w2,go_sem,Qa,Qb,Qc,Qd,Qe,↓reduceIte,reduceCtorEq,Qf,Qg,Qh])<;>clear q') | refine hN _ ?_ ?_ Wk.kk | with_reducible refine And.intro ?_ ?_ | with_reducible omega | exact ok_ints | exact cells_ints | exact no_mem | with_reducible exact plain_ints | (refine le_maxLen ?_; omega) | (refine za9 ⟨?_,?_⟩) | (simp only [go_sem,Qc,Qb,zb1,zb2,forall_eq]; done)))
       all_goals (first | omega | assumption | rfl | exact absurd trivial ‹¬True› | exact ret_s1 [] rfl)
   . cases p with
     | true =>
       have c1:=signed_ok a true hw'.1.2 (by omega)
       have c2:=signed_ok b true hw'.2 (by omega)
       have z1:=sg_sz a true
       have z2:=sg_sz b true
       have c3:=join_ok 124 (a.sg true) (b.sg true) (by decide) (by omega) (by omega)
       rw [show ((124 : UInt8).toNat : Int)=124 from rfl] at c3
       have hx : (Fm.jn 124 a b).sg true=.jn 124 (a.sg true) (b.sg true):=rfl
       rw [hx,hf]
       rw [show ((124 : UInt8).toNat : Int)=124 from rfl]
       generalize fmD (Fm.jn 124 (a.sg true) (b.sg true))=z at *
       generalize fmD (a.sg true)=x1 at *
       generalize fmD (b.sg true)=x2 at *
       generalize fmD a=xa at *
       generalize fmD b=xb at *
       generalize (Fm.jn 124 a b).T=t at *
       refine Ctr.of (n:=84) (rs:=[.tmp 4]) Tryz.func22 rfl rfl Tryz.ntmps22 rfl rfl (by kernel_rfl) Tryz.checked.mixed ?_
       simp (disch:=first | omega | decide +kernel) only [w1,w2,go_sem,Qa,Qb,Qc,Qd,Qe,↓reduceIte,reduceCtorEq,Qf,Qg,Qh]
       (repeat' (first | ((first | (refine gsel_split (fun q' => ?_) (fun q' => ?_)<;>(have h':=q')<;>(try simp only [za1,za2,Ba,Bb,za3,ne_eq,za4,za5,za6,Ia,Ib,Ic,Ie,Da,Bc,Bh,Be,za7,za8] at h')<;>try (exfalso; omega)) | (have q':=trivial; first | refine callX_shared (c1) rfl (by decide) ?_ | refine callY_shared (c1) rfl ?_ | refine callX_shared (c2) rfl (by decide) ?_ | refine callY_shared (c2) rfl ?_ | refine callX_shared (c3) rfl (by decide) ?_ | refine callY_shared (c3) rfl ?_ | refine hE _ _ ret_ne ?_ | refine hE _ _ exit_ne ?_))<;>(try simp (disch:=first | omega | decide +kernel) only [q',w1,w2,go_sem,Qa,Qb,Qc,Qd,Qe,↓reduceIte,reduceCtorEq,Qf,Qg,Qh])<;>clear q') | refine hN _ ?_ ?_ Wk.kk | with_reducible refine And.intro ?_ ?_ | with_reducible omega | exact ok_ints | exact cells_ints | exact no_mem | with_reducible exact plain_ints | (refine le_maxLen ?_; omega) | (refine za9 ⟨?_,?_⟩) | (simp only [go_sem,Qc,Qb,zb1,zb2,forall_eq]; done)))
       all_goals (first | omega | assumption | rfl | exact absurd trivial ‹¬True› | exact ret_s1 [] rfl)
     | false =>
       have c1:=signed_ok a false hw'.1.2 (by omega)
       have c2:=signed_ok b false hw'.2 (by omega)
       have z1:=sg_sz a false
       have z2:=sg_sz b false
       have c3:=join_ok 38 (a.sg false) (b.sg false) (by decide) (by omega) (by omega)
       rw [show ((38 : UInt8).toNat : Int)=38 from rfl] at c3
       have hx : (Fm.jn 124 a b).sg false=.jn 38 (a.sg false) (b.sg false):=rfl
       rw [hx,hf]
       rw [show ((124 : UInt8).toNat : Int)=124 from rfl]
       generalize fmD (Fm.jn 38 (a.sg false) (b.sg false))=z at *
       generalize fmD (a.sg false)=x1 at *
       generalize fmD (b.sg false)=x2 at *
       generalize fmD a=xa at *
       generalize fmD b=xb at *
       generalize (Fm.jn 124 a b).T=t at *
       refine Ctr.of (n:=84) (rs:=[.tmp 4]) Tryz.func22 rfl rfl Tryz.ntmps22 rfl rfl (by kernel_rfl) Tryz.checked.mixed ?_
       simp (disch:=first | omega | decide +kernel) only [w1,w2,go_sem,Qa,Qb,Qc,Qd,Qe,↓reduceIte,reduceCtorEq,Qf,Qg,Qh]
       (repeat' (first | ((first | (refine gsel_split (fun q' => ?_) (fun q' => ?_)<;>(have h':=q')<;>(try simp only [za1,za2,Ba,Bb,za3,ne_eq,za4,za5,za6,Ia,Ib,Ic,Ie,Da,Bc,Bh,Be,za7,za8] at h')<;>try (exfalso; omega)) | (have q':=trivial; first | refine callX_shared (c1) rfl (by decide) ?_ | refine callY_shared (c1) rfl ?_ | refine callX_shared (c2) rfl (by decide) ?_ | refine callY_shared (c2) rfl ?_ | refine callX_shared (c3) rfl (by decide) ?_ | refine callY_shared (c3) rfl ?_ | refine hE _ _ ret_ne ?_ | refine hE _ _ exit_ne ?_))<;>(try simp (disch:=first | omega | decide +kernel) only [q',w1,w2,go_sem,Qa,Qb,Qc,Qd,Qe,↓reduceIte,reduceCtorEq,Qf,Qg,Qh])<;>clear q') | refine hN _ ?_ ?_ Wk.kk | with_reducible refine And.intro ?_ ?_ | with_reducible omega | exact ok_ints | exact cells_ints | exact no_mem | with_reducible exact plain_ints | (refine le_maxLen ?_; omega) | (refine za9 ⟨?_,?_⟩) | (simp only [go_sem,Qc,Qb,zb1,zb2,forall_eq]; done)))
       all_goals (first | omega | assumption | rfl | exact absurd trivial ‹¬True› | exact ret_s1 [] rfl)
   . cases p with
     | true =>
       have c1:=signed_ok a false hw'.1.2 (by omega)
       have c2:=signed_ok b true hw'.2 (by omega)
       have z1:=sg_sz a false
       have z2:=sg_sz b true
       have c3:=join_ok 124 (a.sg false) (b.sg true) (by decide) (by omega) (by omega)
       rw [show ((124 : UInt8).toNat : Int)=124 from rfl] at c3
       have hx : (Fm.jn 62 a b).sg true=.jn 124 (a.sg false) (b.sg true):=rfl
       rw [hx,hf]
       rw [show ((62 : UInt8).toNat : Int)=62 from rfl]
       generalize fmD (Fm.jn 124 (a.sg false) (b.sg true))=z at *
       generalize fmD (a.sg false)=x1 at *
       generalize fmD (b.sg true)=x2 at *
       generalize fmD a=xa at *
       generalize fmD b=xb at *
       generalize (Fm.jn 62 a b).T=t at *
       refine Ctr.of (n:=84) (rs:=[.tmp 4]) Tryz.func22 rfl rfl Tryz.ntmps22 rfl rfl (by kernel_rfl) Tryz.checked.mixed ?_
       simp (disch:=first | omega | decide +kernel) only [w1,w2,go_sem,Qa,Qb,Qc,Qd,Qe,↓reduceIte,reduceCtorEq,Qf,Qg,Qh]
       (repeat' (first | ((first | (refine gsel_split (fun q' => ?_) (fun q' => ?_)<;>(have h':=q')<;>(try simp only [za1,za2,Ba,Bb,za3,ne_eq,za4,za5,za6,Ia,Ib,Ic,Ie,Da,Bc,Bh,Be,za7,za8] at h')<;>try (exfalso; omega)) | (have q':=trivial; first | refine callX_shared (c1) rfl (by decide) ?_ | refine callY_shared (c1) rfl ?_ | refine callX_shared (c2) rfl (by decide) ?_ | refine callY_shared (c2) rfl ?_ | refine callX_shared (c3) rfl (by decide) ?_ | refine callY_shared (c3) rfl ?_ | refine hE _ _ ret_ne ?_ | refine hE _ _ exit_ne ?_))<;>(try simp (disch:=first | omega | decide +kernel) only [q',w1,w2,go_sem,Qa,Qb,Qc,Qd,Qe,↓reduceIte,reduceCtorEq,Qf,Qg,Qh])<;>clear q') | refine hN _ ?_ ?_ Wk.kk | with_reducible refine And.intro ?_ ?_ | with_reducible omega | exact ok_ints | exact cells_ints | exact no_mem | with_reducible exact plain_ints | (refine le_maxLen ?_; omega) | (refine za9 ⟨?_,?_⟩) | (simp only [go_sem,Qc,Qb,zb1,zb2,forall_eq]; done)))
       all_goals (first | omega | assumption | rfl | exact absurd trivial ‹¬True› | exact ret_s1 [] rfl)
     | false =>
       have c1:=signed_ok a true hw'.1.2 (by omega)
       have c2:=signed_ok b false hw'.2 (by omega)
       have z1:=sg_sz a true
       have z2:=sg_sz b false
       have c3:=join_ok 38 (a.sg true) (b.sg false) (by decide) (by omega) (by omega)
       rw [show ((38 : UInt8).toNat : Int)=38 from rfl] at c3
       have hx : (Fm.jn 62 a b).sg false=.jn 38 (a.sg true) (b.sg false):=rfl
       rw [hx,hf]
       rw [show ((62 : UInt8).toNat : Int)=62 from rfl]
       generalize fmD (Fm.jn 38 (a.sg true) (b.sg false))=z at *
       generalize fmD (a.sg true)=x1 at *
       generalize fmD (b.sg false)=x2 at *
       generalize fmD a=xa at *
       generalize fmD b=xb at *
       generalize (Fm.jn 62 a b).T=t at *
       refine Ctr.of (n:=84) (rs:=[.tmp 4]) Tryz.func22 rfl rfl Tryz.ntmps22 rfl rfl (by kernel_rfl) Tryz.checked.mixed ?_
       simp (disch:=first | omega | decide +kernel) only [w1,w2,go_sem,Qa,Qb,Qc,Qd,Qe,↓reduceIte,reduceCtorEq,Qf,Qg,Qh]
       (repeat' (first | ((first | (refine gsel_split (fun q' => ?_) (fun q' => ?_)<;>(have h':=q')<;>(try simp only [za1,za2,Ba,Bb,za3,ne_eq,za4,za5,za6,Ia,Ib,Ic,Ie,Da,Bc,Bh,Be,za7,za8] at h')<;>try (exfalso; omega)) | (have q':=trivial; first | refine callX_shared (c1) rfl (by decide) ?_ | refine callY_shared (c1) rfl ?_ | refine callX_shared (c2) rfl (by decide) ?_ | refine callY_shared (c2) rfl ?_ | refine callX_shared (c3) rfl (by decide) ?_ | refine callY_shared (c3) rfl ?_ | refine hE _ _ ret_ne ?_ | refine hE _ _ exit_ne ?_))<;>(try simp (disch:=first | omega | decide +kernel) only [q',w1,w2,go_sem,Qa,Qb,Qc,Qd,Qe,↓reduceIte,reduceCtorEq,Qf,Qg,Qh])<;>clear q') | refine hN _ ?_ ?_ Wk.kk | with_reducible refine And.intro ?_ ?_ | with_reducible omega | exact ok_ints | exact cells_ints | exact no_mem | with_reducible exact plain_ints | (refine le_maxLen ?_; omega) | (refine za9 ⟨?_,?_⟩) | (simp only [go_sem,Qc,Qb,zb1,zb2,forall_eq]; done)))
       all_goals (first | omega | assumption | rfl | exact absurd trivial ‹¬True› | exact ret_s1 [] rfl)
end Abs.Y

namespace Abs.Y
open Go Go.Proofs Abs
open Nat renaming reduceEqDiff -> Qa, reduceLT -> Qb, reduceAdd -> Qc, reduceMul -> Qd, reduceSub -> Qe, reduceLeDiff -> Qf, reduceSubDiff -> Qg, reduceBEq -> Qh
open Bool renaming not_eq_true' -> Ba, not_eq_false' -> Bb, and_eq_true -> Bc, or_eq_true -> Bh, or_eq_false_iff -> Be
open Int renaming ofNat_lt -> Ia, ofNat_le -> Ib, not_lt -> Ic, not_le -> Ie
open Decidable renaming not_not -> Da
set_option maxRecDepth 100000

noncomputable def negF (s : ByteArray) : Fm:=(fmS s).sg true
noncomputable def negG (s : ByteArray) : Bool:=okS s && decide ((negF s).T.size<=80)
noncomputable def negS (s : ByteArray) : ByteArray:=if negG s then (negF s).T else ⟨#[]⟩
theorem negF_ok {s : ByteArray} (h : okS s=true) : (negF s).wf=true∧(negF s).T.size<=160∧∀ v,(negF s).vl v=(fmS s).vl v:=by
 obtain ⟨h1,h2,h3⟩:=okS_spec h
 refine ⟨sg_wf _ _ h1,?_,fun v => by rw [negF,sg_vl v _ _ h1,if_pos rfl]⟩
 have:=sg_sz (fmS s) true
 rw [← h2] at this
 rw [negF]; omega
theorem NegationForm_ok (s : ByteArray) (hs : s.size<=1000000) : Ctr Tryz.prog 6 [.str s] true (.tup [.d (.str (negS s)),.d (.bool (negG s))]) []:=by
 obtain ⟨x,hx,c1⟩:=parse_ok s hs
 cases hk : okS s with
 | false =>
   rw [hk] at c1
   have hg : negG s=false:=by rw [negG,hk]; rfl
   rw [negS,hg,if_neg (by simp)]
   refine Ctr.of (n:=18) (rs:=[.tmp 2,.tmp 3]) Tryz.func6 rfl rfl Tryz.ntmps6 rfl rfl (by kernel_rfl) Tryz.checked.mixed ?_
   simp (disch:=first | omega | decide +kernel) only [go_sem,Qa,Qb,Qc,Qd,Qe,↓reduceIte,reduceCtorEq,Qf,Qg,Qh]
   (repeat' (first | ((first | (refine gsel_split (fun q' => ?_) (fun q' => ?_)<;>(have h':=q')<;>(try simp only [za1,za2,Ba,Bb,za3,ne_eq,za4,za5,za6,Ia,Ib,Ic,Ie,Da,Bc,Bh,Be,za7,za8] at h')<;>try (exfalso; omega)) | (have q':=trivial; first | refine callX_shared (c1) rfl (by decide) ?_ | refine callY_shared (c1) rfl ?_ | refine hE _ _ ret_ne ?_ | refine hE _ _ exit_ne ?_))<;>(try simp (disch:=first | omega | decide +kernel) only [q',go_sem,Qa,Qb,Qc,Qd,Qe,↓reduceIte,reduceCtorEq,Qf,Qg,Qh])<;>clear q') | refine hN _ ?_ ?_ Wk.kk | with_reducible refine And.intro ?_ ?_ | with_reducible omega | exact ok_ints | exact cells_ints | exact no_mem | with_reducible exact plain_ints | (refine le_maxLen ?_; omega) | (refine za9 ⟨?_,?_⟩) | (simp only [go_sem,Qc,Qb,zb1,zb2,forall_eq]; done)))
   all_goals (first | omega | assumption | rfl | exact absurd trivial ‹¬True› | exact ret_s2 [] rfl rfl)
 | true =>
   rw [hx hk,hk] at c1
   obtain ⟨h1,h2,h3⟩:=okS_spec hk
   have c2:=signed_ok (fmS s) true h1 (by rw [← h2]; omega)
   have c3:=shown_ok ((fmS s).sg true)
   have hg : negG s=decide (((fmS s).sg true).T.size<=80):=by rw [negG,hk]; rfl
   have hS : negS s=if ((fmS s).sg true).T.size<=80 then ((fmS s).sg true).T else ⟨#[]⟩:=by
    rw [negS,hg,negF]; simp
   rw [hS,hg]
   have n1:=fmD_na (fmS s)
   have n2:=fmD_nc (fmS s)
   have n3:=fmD_na ((fmS s).sg true)
   generalize (if ((fmS s).sg true).T.size<=80 then ((fmS s).sg true).T else ⟨#[]⟩)=t at *
   generalize (decide (((fmS s).sg true).T.size<=80))=g at *
   generalize fmD ((fmS s).sg true)=z at *
   generalize fmD (fmS s)=y at *
   refine Ctr.of (n:=18) (rs:=[.tmp 2,.tmp 3]) Tryz.func6 rfl rfl Tryz.ntmps6 rfl rfl (by kernel_rfl) Tryz.checked.mixed ?_
   simp (disch:=first | omega | decide +kernel) only [go_sem,Qa,Qb,Qc,Qd,Qe,↓reduceIte,reduceCtorEq,Qf,Qg,Qh]
   (repeat' (first | ((first | (refine gsel_split (fun q' => ?_) (fun q' => ?_)<;>(have h':=q')<;>(try simp only [za1,za2,Ba,Bb,za3,ne_eq,za4,za5,za6,Ia,Ib,Ic,Ie,Da,Bc,Bh,Be,za7,za8] at h')<;>try (exfalso; omega)) | (have q':=trivial; first | refine callX_shared (c1) rfl (by decide) ?_ | refine callY_shared (c1) rfl ?_ | refine callX_shared (c2) rfl (by decide) ?_ | refine callY_shared (c2) rfl ?_ | refine callX_new (c3) rfl (by decide) ?_ | refine callY_new (c3) rfl ?_ | refine hE _ _ ret_ne ?_ | refine hE _ _ exit_ne ?_))<;>(try simp (disch:=first | omega | decide +kernel) only [q',go_sem,Qa,Qb,Qc,Qd,Qe,↓reduceIte,reduceCtorEq,Qf,Qg,Qh])<;>clear q') | refine hN _ ?_ ?_ Wk.kk | with_reducible refine And.intro ?_ ?_ | with_reducible omega | exact ok_ints | exact cells_ints | exact no_mem | with_reducible exact plain_ints | (refine le_maxLen ?_; omega) | (refine za9 ⟨?_,?_⟩) | (simp only [go_sem,Qc,Qb,zb1,zb2,forall_eq]; done)))
   all_goals (first | omega | assumption | rfl | exact absurd trivial ‹¬True› | exact ret_s2 [] rfl rfl)
theorem IsFormula_ok (s : ByteArray) (hs : s.size<=1000000) : Ctr Tryz.prog 13 [.str s] false (.d (.bool (okS s))) []:=by
 obtain ⟨x,hx,c1⟩:=parse_ok s hs
 generalize okS s=b at *
 refine Ctr.of (n:=11) (rs:=[.tmp 2]) Tryz.func13 rfl rfl Tryz.ntmps13 rfl rfl (by kernel_rfl) Tryz.checked.mixed ?_
 simp (disch:=first | omega | decide +kernel) only [go_sem,Qa,Qb,Qc,Qd,Qe,↓reduceIte,reduceCtorEq,Qf,Qg,Qh]
 (repeat' (first | ((first | (refine gsel_split (fun q' => ?_) (fun q' => ?_)<;>(have h':=q')<;>(try simp only [za1,za2,Ba,Bb,za3,ne_eq,za4,za5,za6,Ia,Ib,Ic,Ie,Da,Bc,Bh,Be,za7,za8] at h')<;>try (exfalso; omega)) | (have q':=trivial; first | refine callX_shared (c1) rfl (by decide) ?_ | refine callY_shared (c1) rfl ?_ | refine hE _ _ ret_ne ?_ | refine hE _ _ exit_ne ?_))<;>(try simp (disch:=first | omega | decide +kernel) only [q',go_sem,Qa,Qb,Qc,Qd,Qe,↓reduceIte,reduceCtorEq,Qf,Qg,Qh])<;>clear q') | refine hN _ ?_ ?_ Wk.kk | with_reducible refine And.intro ?_ ?_ | with_reducible omega | exact ok_ints | exact cells_ints | exact no_mem | with_reducible exact plain_ints | (refine le_maxLen ?_; omega) | (refine za9 ⟨?_,?_⟩) | (simp only [go_sem,Qc,Qb,zb1,zb2,forall_eq]; done)))
 all_goals (first | omega | assumption | rfl | exact absurd trivial ‹¬True›)
theorem FormulaValue_ok (s : ByteArray) (m : Nat) (hs : s.size<=1000000) (hm : m < 64) (hk : okS s=true) : Ctr Tryz.prog 10 [.str s,.int .i64 m] true (.tup [.d (.bool ((fmS s).vl (bitF m))),.d (.bool true)]) []:=by
 obtain ⟨x,hx,c1⟩:=parse_ok s hs
 rw [hx hk,hk] at c1
 have c2:=within_ok m 0 63
 rw [decide_eq_true (by omega),decide_eq_true (by omega)] at c2
 have c3:=value_ok m hm (fmS s) (okS_spec hk).1
 have n1:=fmD_na (fmS s)
 have n2:=fmD_nc (fmS s)
 generalize (fmS s).vl (bitF m)=b at *
 generalize fmD (fmS s)=y at *
 refine Ctr.of (n:=23) (rs:=[.tmp 4,.tmp 5]) Tryz.func10 rfl rfl Tryz.ntmps10 rfl rfl (by kernel_rfl) Tryz.checked.mixed ?_
 simp (disch:=first | omega | decide +kernel) only [Bool.and_self,Bool.not_true,go_sem,Qa,Qb,Qc,Qd,Qe,↓reduceIte,reduceCtorEq,Qf,Qg,Qh]
 (repeat' (first | ((first | (refine gsel_split (fun q' => ?_) (fun q' => ?_)<;>(have h':=q')<;>(try simp only [za1,za2,Ba,Bb,za3,ne_eq,za4,za5,za6,Ia,Ib,Ic,Ie,Da,Bc,Bh,Be,za7,za8] at h')<;>try (exfalso; omega)) | (have q':=trivial; first | refine callX_shared (c1) rfl (by decide) ?_ | refine callY_shared (c1) rfl ?_ | refine callX_new (c2) rfl (by decide) ?_ | refine callY_new (c2) rfl ?_ | refine callX_new (c3) rfl (by decide) ?_ | refine callY_new (c3) rfl ?_ | refine hE _ _ ret_ne ?_ | refine hE _ _ exit_ne ?_))<;>(try simp (disch:=first | omega | decide +kernel) only [q',Bool.and_self,Bool.not_true,go_sem,Qa,Qb,Qc,Qd,Qe,↓reduceIte,reduceCtorEq,Qf,Qg,Qh])<;>clear q') | refine hN _ ?_ ?_ Wk.kk | with_reducible refine And.intro ?_ ?_ | with_reducible omega | exact ok_ints | exact cells_ints | exact no_mem | with_reducible exact plain_ints | (refine le_maxLen ?_; omega) | (refine za9 ⟨?_,?_⟩) | (simp only [go_sem,Qc,Qb,zb1,zb2,forall_eq]; done)))
 all_goals (first | omega | assumption | rfl | exact absurd trivial ‹¬True› | exact ret_s2 [] rfl rfl)
end Abs.Y
