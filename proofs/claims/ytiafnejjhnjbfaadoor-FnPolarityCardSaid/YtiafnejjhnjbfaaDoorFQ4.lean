/- What functions of this program compute, over plain data. No condition. -/
import Derived.Test.YtiafnejjhnjbfaaDoorR3
import Derived.Test.YtiafnejjhnjbfaaDoorFO7
import Derived.Test.YtiafnejjhnjbfaaDoorFQ1
set_option linter.all false
namespace Abs.Y
open Go Go.Proofs Abs
open Nat renaming reduceEqDiff -> Qa, reduceLT -> Qb, reduceAdd -> Qc, reduceMul -> Qd, reduceSub -> Qe, reduceLeDiff -> Qf, reduceSubDiff -> Qg, reduceBEq -> Qh
open Bool renaming not_eq_true' -> Ba, not_eq_false' -> Bb, and_eq_true -> Bc, or_eq_true -> Bh, or_eq_false_iff -> Be
open Int renaming ofNat_lt -> Ia, ofNat_le -> Ib, not_lt -> Ic, not_le -> Ie
open Decidable renaming not_not -> Da
set_option maxRecDepth 100000
set_option maxHeartbeats 1000000

def QT (n : Nat) (r : AV) : Prop:=∃ s : ByteArray,r=.d (.str s)∧s.size<=n
theorem ofL_ok {code : List Int} (hc : CodeOK code) (ss : List ByteArray) (n : Nat) (hl : 1<=ss.length∧ss.length<=60000) (hn : ∀ s ∈ ss,s.size<=n) :
 DrawsL 24 [.sl 1] 2 (.arr 9 1 (ss.map .str)) (QT n) code:=fun at_ seed h1 h2 h3 => by
 have c1:=pick_ok hc (ss.length : Nat) (by omega)
 have hei : ∀ x : Int,0<=x->x < ss.length->el (ss.map D.str) x.toNat=.str (ss.getD x.toNat ByteArray.empty):=fun x hx hl => el_map (f:=D.str) ByteArray.empty (by omega)
 have hm : ∀ x : Int,0<=x->x < ss.length->(ss.getD x.toNat ByteArray.empty).size<=n:=fun x hx hl => hn _ (getD_mem (by omega))
 refine CtrR.of (n:=12) (rs:=[.tmp 4]) Tryd.func24 rfl rfl Tryd.ntmps24 rfl rfl (by kernel_rfl) Tryd.checked.mixed ?_; intro u
 simp (disch:=first | omega | decide +kernel) only [curO,curB,D.bytes,go_sem,Qa,Qb,Qc,Qd,Qe,↓reduceIte,reduceCtorEq,Qf,Qg,Qh]
 (repeat' (first | ((first | (refine gsel_split (fun q' => ?_) (fun q' => ?_)<;>(have h':=q')<;>(try simp only [za1,za2,Ba,Bb,za3,ne_eq,za4,za5,za6,Ia,Ib,Ic,Ie,Da,Bc,Bh,Be,za7,za8] at h')<;>try (exfalso; omega)) | (have q':=trivial; first | (refine callX_draw _ (c1) ⟨.inl rfl,.inl rfl,trivial⟩ rfl (by simp [dstB]) (by omega) (by omega) (by omega) ?_; rintro _ at1 sd1 hat11 hat12 hsd11 hsd12 ⟨x1,rfl,hx1⟩) | refine hE _ _ ret_ne ?_ | refine hE _ _ exit_ne ?_))<;>(try simp (disch:=first | omega | decide +kernel) only [q',curO,curB,D.bytes,hei,List.length_map,go_sem,Qa,Qb,Qc,Qd,Qe,↓reduceIte,reduceCtorEq,Qf,Qg,Qh])<;>clear q') | refine hN _ ?_ ?_ Wk.kk | with_reducible refine And.intro ?_ ?_ | with_reducible omega | exact ok_ints | exact cells_ints | exact no_mem | with_reducible exact plain_ints | (refine le_maxLen ?_; omega) | (refine za9 ⟨?_,?_⟩) | (simp only [go_sem,Qc,Qb,zb1,zb2,forall_eq]; done)))
 all_goals (first | omega | (exact retR_drawL rfl rfl rfl rfl rfl rfl (by omega) (by omega) (by omega) (by omega) ⟨_,rfl,hm _ (by omega) (by omega)⟩))
end Abs.Y

namespace Abs.Y
open Go Go.Proofs Abs
open Nat renaming reduceEqDiff -> Qa, reduceLT -> Qb, reduceAdd -> Qc, reduceMul -> Qd, reduceSub -> Qe, reduceLeDiff -> Qf, reduceSubDiff -> Qg, reduceBEq -> Qh
open Bool renaming not_eq_true' -> Ba, not_eq_false' -> Bb, and_eq_true -> Bc, or_eq_true -> Bh, or_eq_false_iff -> Be
open Int renaming ofNat_lt -> Ia, ofNat_le -> Ib, not_lt -> Ic, not_le -> Ie
open Decidable renaming not_not -> Da
set_option maxRecDepth 100000
set_option maxHeartbeats 4000000

theorem l22Join_ok (o a b : ByteArray) (h1 : o.size<=1000) (h2 : a.size<=1000000) (h3 : b.size<=1000000) : Ctr Tryd.prog 60 [.str o,.str a,.str b] false (.d (.str (ByteArray.mk #[40]++a++o++b++ByteArray.mk #[41]))) []:=by
 have z1 : (ByteArray.mk #[40]).size=1:=rfl
 have z2 : (ByteArray.mk #[41]).size=1:=rfl
 refine Ctr.of (n:=14) (rs:=[.tmp 6]) Tryd.func60 rfl rfl Tryd.ntmps60 rfl rfl (by kernel_rfl) Tryd.checked.mixed ?_
 simp (disch:=first | omega | decide +kernel) only [go_sem,Qa,Qb,Qc,Qd,Qe,↓reduceIte,reduceCtorEq,Qf,Qg,Qh]
 (repeat' (first | ((first | (refine gsel_split (fun q' => ?_) (fun q' => ?_)<;>(have h':=q')<;>(try simp only [za1,za2,Ba,Bb,za3,ne_eq,za4,za5,za6,Ia,Ib,Ic,Ie,Da,Bc,Bh,Be,za7,za8] at h')<;>try (exfalso; omega)) | (have q':=trivial; first | refine hE _ _ ret_ne ?_ | refine hE _ _ exit_ne ?_))<;>(try simp (disch:=first | omega | decide +kernel) only [q',z1,z2,ByteArray.size_append,go_sem,Qa,Qb,Qc,Qd,Qe,↓reduceIte,reduceCtorEq,Qf,Qg,Qh])<;>clear q') | refine hN _ ?_ ?_ Wk.kk | with_reducible refine And.intro ?_ ?_ | with_reducible omega | exact ok_ints | exact cells_ints | exact no_mem | with_reducible exact plain_ints | (refine le_maxLen ?_; omega) | (refine za9 ⟨?_,?_⟩) | (simp only [go_sem,Qc,Qb,zb1,zb2,forall_eq]; done)))
 all_goals (first | omega | rfl)
theorem formula22_ok {code : List Int} (hc : CodeOK code) : ∀ (m : Nat) (n : Int),1<=n->n<=m->n<=8 ->
 Draws 70 [.d (.int .i64 n)] (16 * n.toNat - 8) (QT (4 * n.toNat - 3)) code:=by
 intro m
 induction m with
 | zero => exact fun n h1 h2 => absurd h2 (by omega)
 | succ m ih =>
   intro n hn1 hn2 hn8 at_ seed h1 h2 h3
   have c1:=one_ok hc 6 (by omega)
   have c2:=one_ok hc 4 (by omega)
   have c3:=ofL_ok hc [⟨#[97]⟩,⟨#[98]⟩,⟨#[99]⟩,⟨#[97]⟩,⟨#[98]⟩,⟨#[100]⟩,⟨#[48]⟩,⟨#[49]⟩,⟨#[102]⟩,⟨#[101]⟩,⟨#[99]⟩,⟨#[97]⟩] 1 (by decide) (by decide)
   have c4:=ofL_ok hc [⟨#[38]⟩,⟨#[124]⟩,⟨#[62]⟩] 1 (by decide) (by decide)
   have c5:=pick_ok hc (n - 1) (by omega)
   simp only [List.map_cons,List.map_nil] at c3 c4
   have z1 : (ByteArray.mk #[126]).size=1:=rfl
   have z2 : (ByteArray.mk #[40]).size=1:=rfl
   have z3 : (ByteArray.mk #[41]).size=1:=rfl
   refine CtrR.of (n:=39) (rs:=[.tmp 4]) Tryd.func70 rfl rfl Tryd.ntmps70 rfl rfl (by kernel_rfl) Tryd.checked.mixed ?_; intro u
   simp (disch:=first | omega | decide +kernel) only [curO,curB,D.bytes,go_sem,Qa,Qb,Qc,Qd,Qe,↓reduceIte,reduceCtorEq,Qf,Qg,Qh]
   (repeat' (first | ((first | (refine gsel_split (fun q' => ?_) (fun q' => ?_)<;>(have h':=q')<;>(try simp only [za1,za2,Ba,Bb,za3,ne_eq,za4,za5,za6,Ia,Ib,Ic,Ie,Da,Bc,Bh,Be,za7,za8] at h')<;>try (exfalso; omega)) | (have q':=trivial; first | (refine callX_draw _ (c1) ⟨.inl rfl,.inl rfl,trivial⟩ rfl (by simp [dstB]) (by omega) (by omega) (by omega) ?_; rintro _ ata sda hata1 hata2 hsda1 hsda2 ⟨xa,rfl,hxa⟩) | (refine callX_drawL _ _ (c3) ⟨.inl rfl,.inl rfl,trivial⟩ rfl rfl (by decide) (by simp [dstB]) (by omega) (by omega) (by omega) ?_; rintro _ at1 sd1 hat1 hat2 hsd1 hsd2 ⟨x1,rfl,hx1⟩) | (refine callX_draw _ (c2) ⟨.inl rfl,.inl rfl,trivial⟩ rfl (by simp [dstB]) (by omega) (by omega) (by omega) ?_; rintro _ atb sdb hatb1 hatb2 hsdb1 hsdb2 ⟨xb,rfl,hxb⟩) | (refine callX_draw _ (ih (n - 1) (by omega) (by omega) (by omega)) ⟨.inl rfl,.inl rfl,trivial⟩ rfl (by simp [dstB]) (by omega) (by omega) (by omega) ?_; rintro _ atc sdc hatc1 hatc2 hsdc1 hsdc2 ⟨xc,rfl,hxc⟩) | (refine callX_draw _ (c5) ⟨.inl rfl,.inl rfl,trivial⟩ rfl (by simp [dstB]) (by omega) (by omega) (by omega) ?_; rintro _ atd sdd hatd1 hatd2 hsdd1 hsdd2 ⟨xd,rfl,hxd⟩) | (refine callX_drawL _ _ (c4) ⟨.inl rfl,.inl rfl,trivial⟩ rfl rfl (by decide) (by simp [dstB]) (by omega) (by omega) (by omega) ?_; rintro _ at1 sd1 hat1 hat2 hsd1 hsd2 ⟨x1,rfl,hx1⟩) | (refine callX_draw _ (ih (1 + xd) (by omega) (by omega) (by omega)) ⟨.inl rfl,.inl rfl,trivial⟩ rfl (by simp [dstB]) (by omega) (by omega) (by omega) ?_; rintro _ ate sde hate1 hate2 hsde1 hsde2 ⟨xe,rfl,hxe⟩) | (refine callX_draw _ (ih (n - (1 + xd)) (by omega) (by omega) (by omega)) ⟨.inl rfl,.inl rfl,trivial⟩ rfl (by simp [dstB]) (by omega) (by omega) (by omega) ?_; rintro _ atf sdf hatf1 hatf2 hsdf1 hsdf2 ⟨xf,rfl,hxf⟩) | refine callX_new (l22Join_ok x1 xe xf (by omega) (by omega) (by omega)) rfl (by decide) ?_ | refine callY_new (l22Join_ok x1 xe xf (by omega) (by omega) (by omega)) rfl ?_ | refine hE _ _ ret_ne ?_ | refine hE _ _ exit_ne ?_))<;>(try simp (disch:=first | omega | decide +kernel) only [q',curO,curB,D.bytes,z1,ByteArray.size_append,go_sem,Qa,Qb,Qc,Qd,Qe,↓reduceIte,reduceCtorEq,Qf,Qg,Qh])<;>clear q') | refine hN _ ?_ ?_ Wk.kk | with_reducible refine And.intro ?_ ?_ | with_reducible omega | exact ok_ints | exact cells_ints | exact no_mem | with_reducible exact plain_ints | (refine le_maxLen ?_; omega) | (refine za9 ⟨?_,?_⟩) | (simp only [go_sem,Qc,Qb,zb1,zb2,forall_eq]; done)))
   all_goals (first | omega | (exact retR_draw rfl rfl rfl (by omega) (by omega) (by omega) (by omega) ⟨_,rfl,by (try simp only [ByteArray.size_append,z1,z2,z3]); omega⟩))
end Abs.Y

namespace Abs.Y
open Go Go.Proofs Abs
open Nat renaming reduceEqDiff -> Qa, reduceLT -> Qb, reduceAdd -> Qc, reduceMul -> Qd, reduceSub -> Qe, reduceLeDiff -> Qf, reduceSubDiff -> Qg, reduceBEq -> Qh
open Bool renaming not_eq_true' -> Ba, not_eq_false' -> Bb, and_eq_true -> Bc, or_eq_true -> Bh, or_eq_false_iff -> Be
open Int renaming ofNat_lt -> Ia, ofNat_le -> Ib, not_lt -> Ic, not_le -> Ie
open Decidable renaming not_not -> Da
set_option maxRecDepth 100000
set_option maxHeartbeats 8000000 in
theorem l22Signed_ok : ∀ (x : Fm) (p : Bool),x.wf=true->x.T.size<=100000->Ctr Tryd.prog 31 [.str x.T,.bool p] true (.d (.str (x.sg p).T)) []
 | .lf c, p, hw, hs => by
   have c2:=l22Parts_ok (.lf c) hw (by omega)
   have c2 : Ctr Tryd.prog 45 [.str (Fm.lf c).T] true (.tup [.d (.int .u8 c.toNat),.d (.str ⟨#[]⟩),.d (.str ⟨#[]⟩)]) []:=c2
   by_cases hc : c=48∨c=49
   . rw [Fm.sg,if_pos hc]
     rcases hc with rfl | rfl
     . rw [show ((48 : UInt8).toNat : Int)=48 from rfl] at c2
       cases p with
       | true =>
         rw [if_pos rfl]
         have ht : (Fm.lf 48).T=⟨#[48]⟩:=rfl
         rw [ht] at c2 ⊢
         refine Ctr.of (n:=101) (rs:=[.tmp 4]) Tryd.func31 rfl rfl Tryd.ntmps31 rfl rfl (by kernel_rfl) Tryd.checked.mixed ?_
         simp (disch:=first | omega | decide +kernel) only [go_sem,Qa,Qb,Qc,Qd,Qe,↓reduceIte,reduceCtorEq,Qf,Qg,Qh]
         (repeat' (first | ((first | (refine gsel_split (fun q' => ?_) (fun q' => ?_)<;>(have h':=q')<;>(try simp only [za1,za2,Ba,Bb,za3,ne_eq,za4,za5,za6,Ia,Ib,Ic,Ie,Da,Bc,Bh,Be,za7,za8] at h')<;>try (exfalso; omega)) | (have q':=trivial; first | refine callX_shared (c2) rfl (by decide) ?_ | refine callY_shared (c2) rfl ?_ | refine hE _ _ ret_ne ?_ | refine hE _ _ exit_ne ?_))<;>(try simp (disch:=first | omega | decide +kernel) only [q',go_sem,Qa,Qb,Qc,Qd,Qe,↓reduceIte,reduceCtorEq,Qf,Qg,Qh])<;>clear q') | refine hN _ ?_ ?_ Wk.kk | with_reducible refine And.intro ?_ ?_ | with_reducible omega | exact ok_ints | exact cells_ints | exact no_mem | with_reducible exact plain_ints | (refine le_maxLen ?_; omega) | (refine za9 ⟨?_,?_⟩) | (simp only [go_sem,Qc,Qb,zb1,zb2,forall_eq]; done)))
         all_goals (first | omega | assumption | rfl | exact absurd trivial ‹¬True› | exact ret_s1 [] rfl)
       | false =>
         rw [if_neg (by simp),show (97 : UInt8) - 48=49 from rfl]
         have ht : (Fm.lf 48).T=⟨#[48]⟩:=rfl
         have hu : (Fm.lf 49).T=⟨#[49]⟩:=rfl
         rw [hu]
         rw [ht] at c2 ⊢
         refine Ctr.of (n:=101) (rs:=[.tmp 4]) Tryd.func31 rfl rfl Tryd.ntmps31 rfl rfl (by kernel_rfl) Tryd.checked.mixed ?_
         simp (disch:=first | omega | decide +kernel) only [go_sem,Qa,Qb,Qc,Qd,Qe,↓reduceIte,reduceCtorEq,Qf,Qg,Qh]
         (repeat' (first | ((first | (refine gsel_split (fun q' => ?_) (fun q' => ?_)<;>(have h':=q')<;>(try simp only [za1,za2,Ba,Bb,za3,ne_eq,za4,za5,za6,Ia,Ib,Ic,Ie,Da,Bc,Bh,Be,za7,za8] at h')<;>try (exfalso; omega)) | (have q':=trivial; first | refine callX_shared (c2) rfl (by decide) ?_ | refine callY_shared (c2) rfl ?_ | refine hE _ _ ret_ne ?_ | refine hE _ _ exit_ne ?_))<;>(try simp (disch:=first | omega | decide +kernel) only [q',go_sem,Qa,Qb,Qc,Qd,Qe,↓reduceIte,reduceCtorEq,Qf,Qg,Qh])<;>clear q') | refine hN _ ?_ ?_ Wk.kk | with_reducible refine And.intro ?_ ?_ | with_reducible omega | exact ok_ints | exact cells_ints | exact no_mem | with_reducible exact plain_ints | (refine le_maxLen ?_; omega) | (refine za9 ⟨?_,?_⟩) | (simp only [go_sem,Qc,Qb,zb1,zb2,forall_eq]; done)))
         all_goals (first | omega | assumption | rfl | exact absurd trivial ‹¬True› | exact ret_s1 [] rfl)
     . rw [show ((49 : UInt8).toNat : Int)=49 from rfl] at c2
       cases p with
       | true =>
         rw [if_pos rfl]
         have ht : (Fm.lf 49).T=⟨#[49]⟩:=rfl
         rw [ht] at c2 ⊢
         refine Ctr.of (n:=101) (rs:=[.tmp 4]) Tryd.func31 rfl rfl Tryd.ntmps31 rfl rfl (by kernel_rfl) Tryd.checked.mixed ?_
         simp (disch:=first | omega | decide +kernel) only [go_sem,Qa,Qb,Qc,Qd,Qe,↓reduceIte,reduceCtorEq,Qf,Qg,Qh]
         (repeat' (first | ((first | (refine gsel_split (fun q' => ?_) (fun q' => ?_)<;>(have h':=q')<;>(try simp only [za1,za2,Ba,Bb,za3,ne_eq,za4,za5,za6,Ia,Ib,Ic,Ie,Da,Bc,Bh,Be,za7,za8] at h')<;>try (exfalso; omega)) | (have q':=trivial; first | refine callX_shared (c2) rfl (by decide) ?_ | refine callY_shared (c2) rfl ?_ | refine hE _ _ ret_ne ?_ | refine hE _ _ exit_ne ?_))<;>(try simp (disch:=first | omega | decide +kernel) only [q',go_sem,Qa,Qb,Qc,Qd,Qe,↓reduceIte,reduceCtorEq,Qf,Qg,Qh])<;>clear q') | refine hN _ ?_ ?_ Wk.kk | with_reducible refine And.intro ?_ ?_ | with_reducible omega | exact ok_ints | exact cells_ints | exact no_mem | with_reducible exact plain_ints | (refine le_maxLen ?_; omega) | (refine za9 ⟨?_,?_⟩) | (simp only [go_sem,Qc,Qb,zb1,zb2,forall_eq]; done)))
         all_goals (first | omega | assumption | rfl | exact absurd trivial ‹¬True› | exact ret_s1 [] rfl)
       | false =>
         rw [if_neg (by simp),show (97 : UInt8) - 49=48 from rfl]
         have ht : (Fm.lf 49).T=⟨#[49]⟩:=rfl
         have hu : (Fm.lf 48).T=⟨#[48]⟩:=rfl
         rw [hu]
         rw [ht] at c2 ⊢
         refine Ctr.of (n:=101) (rs:=[.tmp 4]) Tryd.func31 rfl rfl Tryd.ntmps31 rfl rfl (by kernel_rfl) Tryd.checked.mixed ?_
         simp (disch:=first | omega | decide +kernel) only [go_sem,Qa,Qb,Qc,Qd,Qe,↓reduceIte,reduceCtorEq,Qf,Qg,Qh]
         (repeat' (first | ((first | (refine gsel_split (fun q' => ?_) (fun q' => ?_)<;>(have h':=q')<;>(try simp only [za1,za2,Ba,Bb,za3,ne_eq,za4,za5,za6,Ia,Ib,Ic,Ie,Da,Bc,Bh,Be,za7,za8] at h')<;>try (exfalso; omega)) | (have q':=trivial; first | refine callX_shared (c2) rfl (by decide) ?_ | refine callY_shared (c2) rfl ?_ | refine hE _ _ ret_ne ?_ | refine hE _ _ exit_ne ?_))<;>(try simp (disch:=first | omega | decide +kernel) only [q',go_sem,Qa,Qb,Qc,Qd,Qe,↓reduceIte,reduceCtorEq,Qf,Qg,Qh])<;>clear q') | refine hN _ ?_ ?_ Wk.kk | with_reducible refine And.intro ?_ ?_ | with_reducible omega | exact ok_ints | exact cells_ints | exact no_mem | with_reducible exact plain_ints | (refine le_maxLen ?_; omega) | (refine za9 ⟨?_,?_⟩) | (simp only [go_sem,Qc,Qb,zb1,zb2,forall_eq]; done)))
         all_goals (first | omega | assumption | rfl | exact absurd trivial ‹¬True› | exact ret_s1 [] rfl)
   . rw [Fm.sg,if_neg hc]
     have h2:=lf_ne hw
     have hl : 97<=(c.toNat : Int):=by
      have hL : isLet c=true:=by
       have h3 : isLf c=true:=hw
       rw [isLf,Bh,decide_eq_true_eq] at h3
       exact h3.resolve_left hc
      have h4:=of_decide_eq_true hL
      rw [UInt8.le_iff_toNat_le,UInt8.le_iff_toNat_le] at h4
      have e1 : (97 : UInt8).toNat=97:=rfl
      omega
     have g6 : ¬ (c.toNat : Int)=126:=fun h => h2.1 (toN_eq.1 h)
     have g0 : ¬ (c.toNat : Int)=48:=by omega
     have g1 : ¬ (c.toNat : Int)=49:=by omega
     have g2 : ¬ (c.toNat : Int)=38:=by omega
     have g3 : ¬ (c.toNat : Int)=124:=fun h => by
      have : c=124:=toN_eq.1 h
      subst this; exact absurd hw (by decide)
     have g4 : ¬ (c.toNat : Int)=62:=by omega
     have z1 : (ByteArray.mk #[126]).size=1:=rfl
     have en:=T_ng (.lf c)
     cases p with
     | true =>
       rw [if_pos rfl]
       generalize (Fm.lf c).T=t at *
       refine Ctr.of (n:=101) (rs:=[.tmp 4]) Tryd.func31 rfl rfl Tryd.ntmps31 rfl rfl (by kernel_rfl) Tryd.checked.mixed ?_
       simp (disch:=first | omega | decide +kernel) only [g0,g1,g2,g3,g4,g6,go_sem,Qa,Qb,Qc,Qd,Qe,↓reduceIte,reduceCtorEq,Qf,Qg,Qh]
       (repeat' (first | ((first | (refine gsel_split (fun q' => ?_) (fun q' => ?_)<;>(have h':=q')<;>(try simp only [za1,za2,Ba,Bb,za3,ne_eq,za4,za5,za6,Ia,Ib,Ic,Ie,Da,Bc,Bh,Be,za7,za8] at h')<;>try (exfalso; omega)) | (have q':=trivial; first | refine callX_shared (c2) rfl (by decide) ?_ | refine callY_shared (c2) rfl ?_ | refine hE _ _ ret_ne ?_ | refine hE _ _ exit_ne ?_))<;>(try simp (disch:=first | omega | decide +kernel) only [q',g0,g1,g2,g3,g4,g6,go_sem,Qa,Qb,Qc,Qd,Qe,↓reduceIte,reduceCtorEq,Qf,Qg,Qh])<;>clear q') | refine hN _ ?_ ?_ Wk.kk | with_reducible refine And.intro ?_ ?_ | with_reducible omega | exact ok_ints | exact cells_ints | exact no_mem | with_reducible exact plain_ints | (refine le_maxLen ?_; omega) | (refine za9 ⟨?_,?_⟩) | (simp only [go_sem,Qc,Qb,zb1,zb2,forall_eq]; done)))
       all_goals (first | omega | assumption | rfl | exact absurd trivial ‹¬True› | exact ret_s1 [] rfl)
     | false =>
       rw [if_neg (by simp)]
       generalize (Fm.ng (Fm.lf c)).T=z at *
       generalize (Fm.lf c).T=t at *
       refine Ctr.of (n:=101) (rs:=[.tmp 4]) Tryd.func31 rfl rfl Tryd.ntmps31 rfl rfl (by kernel_rfl) Tryd.checked.mixed ?_
       simp (disch:=first | omega | decide +kernel) only [g0,g1,g2,g3,g4,g6,en,go_sem,Qa,Qb,Qc,Qd,Qe,↓reduceIte,reduceCtorEq,Qf,Qg,Qh]
       (repeat' (first | ((first | (refine gsel_split (fun q' => ?_) (fun q' => ?_)<;>(have h':=q')<;>(try simp only [za1,za2,Ba,Bb,za3,ne_eq,za4,za5,za6,Ia,Ib,Ic,Ie,Da,Bc,Bh,Be,za7,za8] at h')<;>try (exfalso; omega)) | (have q':=trivial; first | refine callX_shared (c2) rfl (by decide) ?_ | refine callY_shared (c2) rfl ?_ | refine hE _ _ ret_ne ?_ | refine hE _ _ exit_ne ?_))<;>(try simp (disch:=first | omega | decide +kernel) only [q',g0,g1,g2,g3,g4,g6,en,z1,go_sem,Qa,Qb,Qc,Qd,Qe,↓reduceIte,reduceCtorEq,Qf,Qg,Qh])<;>clear q') | refine hN _ ?_ ?_ Wk.kk | with_reducible refine And.intro ?_ ?_ | with_reducible omega | exact ok_ints | exact cells_ints | exact no_mem | with_reducible exact plain_ints | (refine le_maxLen ?_; omega) | (refine za9 ⟨?_,?_⟩) | (simp only [go_sem,Qc,Qb,zb1,zb2,forall_eq]; done)))
       all_goals (first | omega | assumption | rfl | exact absurd trivial ‹¬True› | exact ret_s1 [] rfl)
 | .ng a, p, hw, hs => by
   have c2:=l22Parts_ok (.ng a) hw (by omega)
   have c2 : Ctr Tryd.prog 45 [.str (Fm.ng a).T] true (.tup [.d (.int .u8 126),.d (.str a.T),.d (.str ⟨#[]⟩)]) []:=c2
   rw [size_ng] at hs
   have c1:=l22Signed_ok a (!p) hw (by omega)
   rw [Fm.sg]
   generalize (a.sg (!p)).T=z at *
   generalize a.T=ta at *
   generalize (Fm.ng a).T=t at *
   refine Ctr.of (n:=101) (rs:=[.tmp 4]) Tryd.func31 rfl rfl Tryd.ntmps31 rfl rfl (by kernel_rfl) Tryd.checked.mixed ?_
   simp (disch:=first | omega | decide +kernel) only [go_sem,Qa,Qb,Qc,Qd,Qe,↓reduceIte,reduceCtorEq,Qf,Qg,Qh]
   (repeat' (first | ((first | (refine gsel_split (fun q' => ?_) (fun q' => ?_)<;>(have h':=q')<;>(try simp only [za1,za2,Ba,Bb,za3,ne_eq,za4,za5,za6,Ia,Ib,Ic,Ie,Da,Bc,Bh,Be,za7,za8] at h')<;>try (exfalso; omega)) | (have q':=trivial; first | refine callX_shared (c2) rfl (by decide) ?_ | refine callY_shared (c2) rfl ?_ | refine callX_shared (c1) rfl (by decide) ?_ | refine callY_shared (c1) rfl ?_ | refine hE _ _ ret_ne ?_ | refine hE _ _ exit_ne ?_))<;>(try simp (disch:=first | omega | decide +kernel) only [q',go_sem,Qa,Qb,Qc,Qd,Qe,↓reduceIte,reduceCtorEq,Qf,Qg,Qh])<;>clear q') | refine hN _ ?_ ?_ Wk.kk | with_reducible refine And.intro ?_ ?_ | with_reducible omega | exact ok_ints | exact cells_ints | exact no_mem | with_reducible exact plain_ints | (refine le_maxLen ?_; omega) | (refine za9 ⟨?_,?_⟩) | (simp only [go_sem,Qc,Qb,zb1,zb2,forall_eq]; done)))
   all_goals (first | omega | assumption | rfl | exact absurd trivial ‹¬True› | exact ret_s1 [] rfl)
 | .jn o a b, p, hw, hs => by
   have c0:=l22Parts_ok (.jn o a b) hw (by omega)
   have c0 : Ctr Tryd.prog 45 [.str (Fm.jn o a b).T] true (.tup [.d (.int .u8 o.toNat),.d (.str a.T),.d (.str b.T)]) []:=c0
   have hw' : (isOp o && a.wf && b.wf)=true:=hw
   simp only [Bc] at hw'
   rw [size_jn] at hs
   rcases of_decide_eq_true hw'.1.1 with rfl | rfl | rfl
   . cases p with
     | true =>
       have c1:=l22Signed_ok a true hw'.1.2 (by omega)
       have c2:=l22Signed_ok b true hw'.2 (by omega)
       have z1:=sg_sz a true
       have z2:=sg_sz b true
       have c3:=l22Join_ok ⟨#[38]⟩ (a.sg true).T (b.sg true).T (by decide) (by omega) (by omega)
       rw [T_jn] at c3
       have hx : (Fm.jn 38 a b).sg true=.jn 38 (a.sg true) (b.sg true):=rfl
       rw [hx]
       rw [show ((38 : UInt8).toNat : Int)=38 from rfl] at c0
       generalize (Fm.jn 38 (a.sg true) (b.sg true)).T=z at *
       generalize (a.sg true).T=x1 at *
       generalize (b.sg true).T=x2 at *
       generalize a.T=xa at *
       generalize b.T=xb at *
       generalize (Fm.jn 38 a b).T=t at *
       refine Ctr.of (n:=101) (rs:=[.tmp 4]) Tryd.func31 rfl rfl Tryd.ntmps31 rfl rfl (by kernel_rfl) Tryd.checked.mixed ?_
       simp (disch:=first | omega | decide +kernel) only [go_sem,Qa,Qb,Qc,Qd,Qe,↓reduceIte,reduceCtorEq,Qf,Qg,Qh]
       (repeat' (first | ((first | (refine gsel_split (fun q' => ?_) (fun q' => ?_)<;>(have h':=q')<;>(try simp only [za1,za2,Ba,Bb,za3,ne_eq,za4,za5,za6,Ia,Ib,Ic,Ie,Da,Bc,Bh,Be,za7,za8] at h')<;>try (exfalso; omega)) | (have q':=trivial; first | refine callX_shared (c0) rfl (by decide) ?_ | refine callY_shared (c0) rfl ?_ | refine callX_shared (c1) rfl (by decide) ?_ | refine callY_shared (c1) rfl ?_ | refine callX_shared (c2) rfl (by decide) ?_ | refine callY_shared (c2) rfl ?_ | refine callX_new (c3) rfl (by decide) ?_ | refine callY_new (c3) rfl ?_ | refine hE _ _ ret_ne ?_ | refine hE _ _ exit_ne ?_))<;>(try simp (disch:=first | omega | decide +kernel) only [q',go_sem,Qa,Qb,Qc,Qd,Qe,↓reduceIte,reduceCtorEq,Qf,Qg,Qh])<;>clear q') | refine hN _ ?_ ?_ Wk.kk | with_reducible refine And.intro ?_ ?_ | with_reducible omega | exact ok_ints | exact cells_ints | exact no_mem | with_reducible exact plain_ints | (refine le_maxLen ?_; omega) | (refine za9 ⟨?_,?_⟩) | (simp only [go_sem,Qc,Qb,zb1,zb2,forall_eq]; done)))
       all_goals (first | omega | assumption | rfl | exact absurd trivial ‹¬True› | exact ret_s1 [] rfl)
     | false =>
       have c1:=l22Signed_ok a false hw'.1.2 (by omega)
       have c2:=l22Signed_ok b false hw'.2 (by omega)
       have z1:=sg_sz a false
       have z2:=sg_sz b false
       have c3:=l22Join_ok ⟨#[124]⟩ (a.sg false).T (b.sg false).T (by decide) (by omega) (by omega)
       rw [T_jn] at c3
       have hx : (Fm.jn 38 a b).sg false=.jn 124 (a.sg false) (b.sg false):=rfl
       rw [hx]
       rw [show ((38 : UInt8).toNat : Int)=38 from rfl] at c0
       generalize (Fm.jn 124 (a.sg false) (b.sg false)).T=z at *
       generalize (a.sg false).T=x1 at *
       generalize (b.sg false).T=x2 at *
       generalize a.T=xa at *
       generalize b.T=xb at *
       generalize (Fm.jn 38 a b).T=t at *
       refine Ctr.of (n:=101) (rs:=[.tmp 4]) Tryd.func31 rfl rfl Tryd.ntmps31 rfl rfl (by kernel_rfl) Tryd.checked.mixed ?_
       simp (disch:=first | omega | decide +kernel) only [go_sem,Qa,Qb,Qc,Qd,Qe,↓reduceIte,reduceCtorEq,Qf,Qg,Qh]
       (repeat' (first | ((first | (refine gsel_split (fun q' => ?_) (fun q' => ?_)<;>(have h':=q')<;>(try simp only [za1,za2,Ba,Bb,za3,ne_eq,za4,za5,za6,Ia,Ib,Ic,Ie,Da,Bc,Bh,Be,za7,za8] at h')<;>try (exfalso; omega)) | (have q':=trivial; first | refine callX_shared (c0) rfl (by decide) ?_ | refine callY_shared (c0) rfl ?_ | refine callX_shared (c1) rfl (by decide) ?_ | refine callY_shared (c1) rfl ?_ | refine callX_shared (c2) rfl (by decide) ?_ | refine callY_shared (c2) rfl ?_ | refine callX_new (c3) rfl (by decide) ?_ | refine callY_new (c3) rfl ?_ | refine hE _ _ ret_ne ?_ | refine hE _ _ exit_ne ?_))<;>(try simp (disch:=first | omega | decide +kernel) only [q',go_sem,Qa,Qb,Qc,Qd,Qe,↓reduceIte,reduceCtorEq,Qf,Qg,Qh])<;>clear q') | refine hN _ ?_ ?_ Wk.kk | with_reducible refine And.intro ?_ ?_ | with_reducible omega | exact ok_ints | exact cells_ints | exact no_mem | with_reducible exact plain_ints | (refine le_maxLen ?_; omega) | (refine za9 ⟨?_,?_⟩) | (simp only [go_sem,Qc,Qb,zb1,zb2,forall_eq]; done)))
       all_goals (first | omega | assumption | rfl | exact absurd trivial ‹¬True› | exact ret_s1 [] rfl)
   . cases p with
     | true =>
       have c1:=l22Signed_ok a true hw'.1.2 (by omega)
       have c2:=l22Signed_ok b true hw'.2 (by omega)
       have z1:=sg_sz a true
       have z2:=sg_sz b true
       have c3:=l22Join_ok ⟨#[124]⟩ (a.sg true).T (b.sg true).T (by decide) (by omega) (by omega)
       rw [T_jn] at c3
       have hx : (Fm.jn 124 a b).sg true=.jn 124 (a.sg true) (b.sg true):=rfl
       rw [hx]
       rw [show ((124 : UInt8).toNat : Int)=124 from rfl] at c0
       generalize (Fm.jn 124 (a.sg true) (b.sg true)).T=z at *
       generalize (a.sg true).T=x1 at *
       generalize (b.sg true).T=x2 at *
       generalize a.T=xa at *
       generalize b.T=xb at *
       generalize (Fm.jn 124 a b).T=t at *
       refine Ctr.of (n:=101) (rs:=[.tmp 4]) Tryd.func31 rfl rfl Tryd.ntmps31 rfl rfl (by kernel_rfl) Tryd.checked.mixed ?_
       simp (disch:=first | omega | decide +kernel) only [go_sem,Qa,Qb,Qc,Qd,Qe,↓reduceIte,reduceCtorEq,Qf,Qg,Qh]
       (repeat' (first | ((first | (refine gsel_split (fun q' => ?_) (fun q' => ?_)<;>(have h':=q')<;>(try simp only [za1,za2,Ba,Bb,za3,ne_eq,za4,za5,za6,Ia,Ib,Ic,Ie,Da,Bc,Bh,Be,za7,za8] at h')<;>try (exfalso; omega)) | (have q':=trivial; first | refine callX_shared (c0) rfl (by decide) ?_ | refine callY_shared (c0) rfl ?_ | refine callX_shared (c1) rfl (by decide) ?_ | refine callY_shared (c1) rfl ?_ | refine callX_shared (c2) rfl (by decide) ?_ | refine callY_shared (c2) rfl ?_ | refine callX_new (c3) rfl (by decide) ?_ | refine callY_new (c3) rfl ?_ | refine hE _ _ ret_ne ?_ | refine hE _ _ exit_ne ?_))<;>(try simp (disch:=first | omega | decide +kernel) only [q',go_sem,Qa,Qb,Qc,Qd,Qe,↓reduceIte,reduceCtorEq,Qf,Qg,Qh])<;>clear q') | refine hN _ ?_ ?_ Wk.kk | with_reducible refine And.intro ?_ ?_ | with_reducible omega | exact ok_ints | exact cells_ints | exact no_mem | with_reducible exact plain_ints | (refine le_maxLen ?_; omega) | (refine za9 ⟨?_,?_⟩) | (simp only [go_sem,Qc,Qb,zb1,zb2,forall_eq]; done)))
       all_goals (first | omega | assumption | rfl | exact absurd trivial ‹¬True› | exact ret_s1 [] rfl)
     | false =>
       have c1:=l22Signed_ok a false hw'.1.2 (by omega)
       have c2:=l22Signed_ok b false hw'.2 (by omega)
       have z1:=sg_sz a false
       have z2:=sg_sz b false
       have c3:=l22Join_ok ⟨#[38]⟩ (a.sg false).T (b.sg false).T (by decide) (by omega) (by omega)
       rw [T_jn] at c3
       have hx : (Fm.jn 124 a b).sg false=.jn 38 (a.sg false) (b.sg false):=rfl
       rw [hx]
       rw [show ((124 : UInt8).toNat : Int)=124 from rfl] at c0
       generalize (Fm.jn 38 (a.sg false) (b.sg false)).T=z at *
       generalize (a.sg false).T=x1 at *
       generalize (b.sg false).T=x2 at *
       generalize a.T=xa at *
       generalize b.T=xb at *
       generalize (Fm.jn 124 a b).T=t at *
       refine Ctr.of (n:=101) (rs:=[.tmp 4]) Tryd.func31 rfl rfl Tryd.ntmps31 rfl rfl (by kernel_rfl) Tryd.checked.mixed ?_
       simp (disch:=first | omega | decide +kernel) only [go_sem,Qa,Qb,Qc,Qd,Qe,↓reduceIte,reduceCtorEq,Qf,Qg,Qh]
       (repeat' (first | ((first | (refine gsel_split (fun q' => ?_) (fun q' => ?_)<;>(have h':=q')<;>(try simp only [za1,za2,Ba,Bb,za3,ne_eq,za4,za5,za6,Ia,Ib,Ic,Ie,Da,Bc,Bh,Be,za7,za8] at h')<;>try (exfalso; omega)) | (have q':=trivial; first | refine callX_shared (c0) rfl (by decide) ?_ | refine callY_shared (c0) rfl ?_ | refine callX_shared (c1) rfl (by decide) ?_ | refine callY_shared (c1) rfl ?_ | refine callX_shared (c2) rfl (by decide) ?_ | refine callY_shared (c2) rfl ?_ | refine callX_new (c3) rfl (by decide) ?_ | refine callY_new (c3) rfl ?_ | refine hE _ _ ret_ne ?_ | refine hE _ _ exit_ne ?_))<;>(try simp (disch:=first | omega | decide +kernel) only [q',go_sem,Qa,Qb,Qc,Qd,Qe,↓reduceIte,reduceCtorEq,Qf,Qg,Qh])<;>clear q') | refine hN _ ?_ ?_ Wk.kk | with_reducible refine And.intro ?_ ?_ | with_reducible omega | exact ok_ints | exact cells_ints | exact no_mem | with_reducible exact plain_ints | (refine le_maxLen ?_; omega) | (refine za9 ⟨?_,?_⟩) | (simp only [go_sem,Qc,Qb,zb1,zb2,forall_eq]; done)))
       all_goals (first | omega | assumption | rfl | exact absurd trivial ‹¬True› | exact ret_s1 [] rfl)
   . cases p with
     | true =>
       have c1:=l22Signed_ok a false hw'.1.2 (by omega)
       have c2:=l22Signed_ok b true hw'.2 (by omega)
       have z1:=sg_sz a false
       have z2:=sg_sz b true
       have c3:=l22Join_ok ⟨#[124]⟩ (a.sg false).T (b.sg true).T (by decide) (by omega) (by omega)
       rw [T_jn] at c3
       have hx : (Fm.jn 62 a b).sg true=.jn 124 (a.sg false) (b.sg true):=rfl
       rw [hx]
       rw [show ((62 : UInt8).toNat : Int)=62 from rfl] at c0
       generalize (Fm.jn 124 (a.sg false) (b.sg true)).T=z at *
       generalize (a.sg false).T=x1 at *
       generalize (b.sg true).T=x2 at *
       generalize a.T=xa at *
       generalize b.T=xb at *
       generalize (Fm.jn 62 a b).T=t at *
       refine Ctr.of (n:=101) (rs:=[.tmp 4]) Tryd.func31 rfl rfl Tryd.ntmps31 rfl rfl (by kernel_rfl) Tryd.checked.mixed ?_
       simp (disch:=first | omega | decide +kernel) only [go_sem,Qa,Qb,Qc,Qd,Qe,↓reduceIte,reduceCtorEq,Qf,Qg,Qh]
       (repeat' (first | ((first | (refine gsel_split (fun q' => ?_) (fun q' => ?_)<;>(have h':=q')<;>(try simp only [za1,za2,Ba,Bb,za3,ne_eq,za4,za5,za6,Ia,Ib,Ic,Ie,Da,Bc,Bh,Be,za7,za8] at h')<;>try (exfalso; omega)) | (have q':=trivial; first | refine callX_shared (c0) rfl (by decide) ?_ | refine callY_shared (c0) rfl ?_ | refine callX_shared (c1) rfl (by decide) ?_ | refine callY_shared (c1) rfl ?_ | refine callX_shared (c2) rfl (by decide) ?_ | refine callY_shared (c2) rfl ?_ | refine callX_new (c3) rfl (by decide) ?_ | refine callY_new (c3) rfl ?_ | refine hE _ _ ret_ne ?_ | refine hE _ _ exit_ne ?_))<;>(try simp (disch:=first | omega | decide +kernel) only [q',go_sem,Qa,Qb,Qc,Qd,Qe,↓reduceIte,reduceCtorEq,Qf,Qg,Qh])<;>clear q') | refine hN _ ?_ ?_ Wk.kk | with_reducible refine And.intro ?_ ?_ | with_reducible omega | exact ok_ints | exact cells_ints | exact no_mem | with_reducible exact plain_ints | (refine le_maxLen ?_; omega) | (refine za9 ⟨?_,?_⟩) | (simp only [go_sem,Qc,Qb,zb1,zb2,forall_eq]; done)))
       all_goals (first | omega | assumption | rfl | exact absurd trivial ‹¬True› | exact ret_s1 [] rfl)
     | false =>
       have c1:=l22Signed_ok a true hw'.1.2 (by omega)
       have c2:=l22Signed_ok b false hw'.2 (by omega)
       have z1:=sg_sz a true
       have z2:=sg_sz b false
       have c3:=l22Join_ok ⟨#[38]⟩ (a.sg true).T (b.sg false).T (by decide) (by omega) (by omega)
       rw [T_jn] at c3
       have hx : (Fm.jn 62 a b).sg false=.jn 38 (a.sg true) (b.sg false):=rfl
       rw [hx]
       rw [show ((62 : UInt8).toNat : Int)=62 from rfl] at c0
       generalize (Fm.jn 38 (a.sg true) (b.sg false)).T=z at *
       generalize (a.sg true).T=x1 at *
       generalize (b.sg false).T=x2 at *
       generalize a.T=xa at *
       generalize b.T=xb at *
       generalize (Fm.jn 62 a b).T=t at *
       refine Ctr.of (n:=101) (rs:=[.tmp 4]) Tryd.func31 rfl rfl Tryd.ntmps31 rfl rfl (by kernel_rfl) Tryd.checked.mixed ?_
       simp (disch:=first | omega | decide +kernel) only [go_sem,Qa,Qb,Qc,Qd,Qe,↓reduceIte,reduceCtorEq,Qf,Qg,Qh]
       (repeat' (first | ((first | (refine gsel_split (fun q' => ?_) (fun q' => ?_)<;>(have h':=q')<;>(try simp only [za1,za2,Ba,Bb,za3,ne_eq,za4,za5,za6,Ia,Ib,Ic,Ie,Da,Bc,Bh,Be,za7,za8] at h')<;>try (exfalso; omega)) | (have q':=trivial; first | refine callX_shared (c0) rfl (by decide) ?_ | refine callY_shared (c0) rfl ?_ | refine callX_shared (c1) rfl (by decide) ?_ | refine callY_shared (c1) rfl ?_ | refine callX_shared (c2) rfl (by decide) ?_ | refine callY_shared (c2) rfl ?_ | refine callX_new (c3) rfl (by decide) ?_ | refine callY_new (c3) rfl ?_ | refine hE _ _ ret_ne ?_ | refine hE _ _ exit_ne ?_))<;>(try simp (disch:=first | omega | decide +kernel) only [q',go_sem,Qa,Qb,Qc,Qd,Qe,↓reduceIte,reduceCtorEq,Qf,Qg,Qh])<;>clear q') | refine hN _ ?_ ?_ Wk.kk | with_reducible refine And.intro ?_ ?_ | with_reducible omega | exact ok_ints | exact cells_ints | exact no_mem | with_reducible exact plain_ints | (refine le_maxLen ?_; omega) | (refine za9 ⟨?_,?_⟩) | (simp only [go_sem,Qc,Qb,zb1,zb2,forall_eq]; done)))
       all_goals (first | omega | assumption | rfl | exact absurd trivial ‹¬True› | exact ret_s1 [] rfl)
end Abs.Y
