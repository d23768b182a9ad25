/- What functions of this program compute, over plain data. No condition. -/
import Derived.Test.YtiafnejjhnjbfaaDoorR3
import Derived.Test.YtiafnejjhnjbfaaDoorFO7
import Derived.Test.YtiafnejjhnjbfaaDoorFQ1
set_option linter.all false
namespace Abs.Y
open Go Go.Proofs Abs
open Nat renaming reduceEqDiff -> Qa, reduceLT -> Qb, reduceAdd -> Qc, reduceMul -> Qd, reduceSub -> Qe, reduceLeDiff -> Qf, reduceSubDiff -> Qg, reduceBEq -> Qh
open Bool renaming not_eq_true' -> Ba, not_eq_false' -> Bb, and_eq_true -> Bc, or_eq_true -> Bh, or_eq_false_iff -> Be
open Int renaming ofNat_lt -> Ia, ofNat_le -> Ib, not_lt -> Ic, not_le -> Ie
open Decidable renaming not_not -> Da
set_option maxRecDepth 100000
set_option maxHeartbeats 1000000

def QT (n : Nat) (r : AV) : Prop:=∃ s : ByteArray,r=.d (.str s)∧s.size<=n
theorem ofL_ok {code : List Int} (hc : CodeOK code) (ss : List ByteArray) (n : Nat) (hl : 1<=ss.length∧ss.length<=60000) (hn : ∀ s ∈ ss,s.size<=n) :
 DrawsL 24 [.sl 1] 2 (.arr 9 1 (ss.map .str)) (QT n) code:=fun at_ seed h1 h2 h3 => by
 have c1:=pick_ok hc (ss.length : Nat) (by omega)
 have hei : ∀ x : Int,0<=x->x < ss.length->el (ss.map D.str) x.toNat=.str (ss.getD x.toNat ByteArray.empty):=fun x hx hl => el_map (f:=D.str) ByteArray.empty (by omega)
 have hm : ∀ x : Int,0<=x->x < ss.length->(ss.getD x.toNat ByteArray.empty).size<=n:=fun x hx hl => hn _ (getD_mem (by omega))
 refine CtrR.of (n:=12) (rs:=[.tmp 4]) Tryd.func24 rfl rfl Tryd.ntmps24 rfl rfl (by kernel_rfl) Tryd.checked.mixed ?_; intro u
 simp (disch:=first | omega | decide +kernel) only [curO,curB,D.bytes,go_sem,Qa,Qb,Qc,Qd,Qe,↓reduceIte,reduceCtorEq,Qf,Qg,Qh]
 (repeat' (first | ((first | (refine gsel_split (fun q' => ?_) (fun q' => ?_)<;>(have h':=q')<;>(try simp only [za1,za2,Ba,Bb,za3,ne_eq,za4,za5,za6,Ia,Ib,Ic,Ie,Da,Bc,Bh,Be,za7,za8] at h')<;>try (exfalso; omega)) | (have q':=trivial; first | (refine callX_draw _ (c1) ⟨.inl rfl,.inl rfl,trivial⟩ rfl (by simp [dstB]) (by omega) (by omega) (by omega) ?_; rintro _ at1 sd1 hat11 hat12 hsd11 hsd12 ⟨x1,rfl,hx1⟩) | refine hE _ _ ret_ne ?_ | refine hE _ _ exit_ne ?_))<;>(try simp (disch:=first | omega | decide +kernel) only [q',curO,curB,D.bytes,hei,List.length_map,go_sem,Qa,Qb,Qc,Qd,Qe,↓reduceIte,reduceCtorEq,Qf,Qg,Qh])<;>clear q') | refine hN _ ?_ ?_ Wk.kk | with_reducible refine And.intro ?_ ?_ | with_reducible omega | exact ok_ints | exact cells_ints | exact no_mem | with_reducible exact plain_ints | (refine le_maxLen ?_; omega) | (refine za9 ⟨?_,?_⟩) | (simp only [go_sem,Qc,Qb,zb1,zb2,forall_eq]; done)))
 all_goals (first | omega | (exact retR_drawL rfl rfl rfl rfl rfl rfl (by omega) (by omega) (by omega) (by omega) ⟨_,rfl,hm _ (by omega) (by omega)⟩))
theorem short24_ok {code : List Int} (hc : CodeOK code) : Draws 48 [] 2 (QT 5) code:=fun at_ seed h1 h2 h3 => by
 have c1:=ofL_ok hc [⟨#[97]⟩,⟨#[98]⟩,⟨#[99]⟩,⟨#[126,97]⟩,⟨#[40,97,62,98,41]⟩,⟨#[49]⟩,⟨#[48]⟩,⟨#[40,97,38,98,41]⟩,⟨#[97]⟩,⟨#[98]⟩] 5 (by decide) (by decide)
 simp only [List.map_cons,List.map_nil] at c1
 refine CtrR.of (n:=6) (rs:=[.tmp 2]) Tryd.func48 rfl rfl Tryd.ntmps48 rfl rfl (by kernel_rfl) Tryd.checked.mixed ?_; intro u
 simp (disch:=first | omega | decide +kernel) only [curO,curB,D.bytes,go_sem,Qa,Qb,Qc,Qd,Qe,↓reduceIte,reduceCtorEq,Qf,Qg,Qh]
 (repeat' (first | ((first | (refine gsel_split (fun q' => ?_) (fun q' => ?_)<;>(have h':=q')<;>(try simp only [za1,za2,Ba,Bb,za3,ne_eq,za4,za5,za6,Ia,Ib,Ic,Ie,Da,Bc,Bh,Be,za7,za8] at h')<;>try (exfalso; omega)) | (have q':=trivial; first | (refine callX_drawL _ _ (c1) ⟨.inl rfl,.inl rfl,trivial⟩ rfl rfl (by decide) (by simp [dstB]) (by omega) (by omega) (by omega) ?_; rintro _ at1 sd1 hat1 hat2 hsd1 hsd2 ⟨x1,rfl,hx1⟩) | refine hE _ _ ret_ne ?_ | refine hE _ _ exit_ne ?_))<;>(try simp (disch:=first | omega | decide +kernel) only [q',curO,curB,D.bytes,go_sem,Qa,Qb,Qc,Qd,Qe,↓reduceIte,reduceCtorEq,Qf,Qg,Qh])<;>clear q') | refine hN _ ?_ ?_ Wk.kk | with_reducible refine And.intro ?_ ?_ | with_reducible omega | exact ok_ints | exact cells_ints | exact no_mem | with_reducible exact plain_ints | (refine le_maxLen ?_; omega) | (refine za9 ⟨?_,?_⟩) | (simp only [go_sem,Qc,Qb,zb1,zb2,forall_eq]; done)))
 all_goals (first | omega | (exact retR_draw rfl rfl rfl (by omega) (by omega) (by omega) (by omega) ⟨_,rfl,by omega⟩))
end Abs.Y

namespace Abs.Y
open Go Go.Proofs Abs
open Nat renaming reduceEqDiff -> Qa, reduceLT -> Qb, reduceAdd -> Qc, reduceMul -> Qd, reduceSub -> Qe, reduceLeDiff -> Qf, reduceSubDiff -> Qg, reduceBEq -> Qh
open Bool renaming not_eq_true' -> Ba, not_eq_false' -> Bb, and_eq_true -> Bc, or_eq_true -> Bh, or_eq_false_iff -> Be
open Int renaming ofNat_lt -> Ia, ofNat_le -> Ib, not_lt -> Ic, not_le -> Ie
open Decidable renaming not_not -> Da
set_option maxRecDepth 100000
set_option maxHeartbeats 4000000

theorem l22Join_ok (o a b : ByteArray) (h1 : o.size<=1000) (h2 : a.size<=1000000) (h3 : b.size<=1000000) : Ctr Tryd.prog 60 [.str o,.str a,.str b] false (.d (.str (ByteArray.mk #[40]++a++o++b++ByteArray.mk #[41]))) []:=by
 have z1 : (ByteArray.mk #[40]).size=1:=rfl
 have z2 : (ByteArray.mk #[41]).size=1:=rfl
 refine Ctr.of (n:=14) (rs:=[.tmp 6]) Tryd.func60 rfl rfl Tryd.ntmps60 rfl rfl (by kernel_rfl) Tryd.checked.mixed ?_
 simp (disch:=first | omega | decide +kernel) only [go_sem,Qa,Qb,Qc,Qd,Qe,↓reduceIte,reduceCtorEq,Qf,Qg,Qh]
 (repeat' (first | ((first | (refine gsel_split (fun q' => ?_) (fun q' => ?_)<;>(have h':=q')<;>(try simp only [za1,za2,Ba,Bb,za3,ne_eq,za4,za5,za6,Ia,Ib,Ic,Ie,Da,Bc,Bh,Be,za7,za8] at h')<;>try (exfalso; omega)) | (have q':=trivial; first | refine hE _ _ ret_ne ?_ | refine hE _ _ exit_ne ?_))<;>(try simp (disch:=first | omega | decide +kernel) only [q',z1,z2,ByteArray.size_append,go_sem,Qa,Qb,Qc,Qd,Qe,↓reduceIte,reduceCtorEq,Qf,Qg,Qh])<;>clear q') | refine hN _ ?_ ?_ Wk.kk | with_reducible refine And.intro ?_ ?_ | with_reducible omega | exact ok_ints | exact cells_ints | exact no_mem | with_reducible exact plain_ints | (refine le_maxLen ?_; omega) | (refine za9 ⟨?_,?_⟩) | (simp only [go_sem,Qc,Qb,zb1,zb2,forall_eq]; done)))
 all_goals (first | omega | rfl)
theorem formula22_ok {code : List Int} (hc : CodeOK code) : ∀ (m : Nat) (n : Int),1<=n->n<=m->n<=8 ->
 Draws 70 [.d (.int .i64 n)] (16 * n.toNat - 8) (QT (4 * n.toNat - 3)) code:=by
 intro m
 induction m with
 | zero => exact fun n h1 h2 => absurd h2 (by omega)
 | succ m ih =>
   intro n hn1 hn2 hn8 at_ seed h1 h2 h3
   have c1:=one_ok hc 6 (by omega)
   have c2:=one_ok hc 4 (by omega)
   have c3:=ofL_ok hc [⟨#[97]⟩,⟨#[98]⟩,⟨#[99]⟩,⟨#[97]⟩,⟨#[98]⟩,⟨#[100]⟩,⟨#[48]⟩,⟨#[49]⟩,⟨#[102]⟩,⟨#[101]⟩,⟨#[99]⟩,⟨#[97]⟩] 1 (by decide) (by decide)
   have c4:=ofL_ok hc [⟨#[38]⟩,⟨#[124]⟩,⟨#[62]⟩] 1 (by decide) (by decide)
   have c5:=pick_ok hc (n - 1) (by omega)
   simp only [List.map_cons,List.map_nil] at c3 c4
   have z1 : (ByteArray.mk #[126]).size=1:=rfl
   have z2 : (ByteArray.mk #[40]).size=1:=rfl
   have z3 : (ByteArray.mk #[41]).size=1:=rfl
   refine CtrR.of (n:=39) (rs:=[.tmp 4]) Tryd.func70 rfl rfl Tryd.ntmps70 rfl rfl (by kernel_rfl) Tryd.checked.mixed ?_; intro u
   simp (disch:=first | omega | decide +kernel) only [curO,curB,D.bytes,go_sem,Qa,Qb,Qc,Qd,Qe,↓reduceIte,reduceCtorEq,Qf,Qg,Qh]
   (repeat' (first | ((first | (refine gsel_split (fun q' => ?_) (fun q' => ?_)<;>(have h':=q')<;>(try simp only [za1,za2,Ba,Bb,za3,ne_eq,za4,za5,za6,Ia,Ib,Ic,Ie,Da,Bc,Bh,Be,za7,za8] at h')<;>try (exfalso; omega)) | (have q':=trivial; first | (refine callX_draw _ (c1) ⟨.inl rfl,.inl rfl,trivial⟩ rfl (by simp [dstB]) (by omega) (by omega) (by omega) ?_; rintro _ ata sda hata1 hata2 hsda1 hsda2 ⟨xa,rfl,hxa⟩) | (refine callX_drawL _ _ (c3) ⟨.inl rfl,.inl rfl,trivial⟩ rfl rfl (by decide) (by simp [dstB]) (by omega) (by omega) (by omega) ?_; rintro _ at1 sd1 hat1 hat2 hsd1 hsd2 ⟨x1,rfl,hx1⟩) | (refine callX_draw _ (c2) ⟨.inl rfl,.inl rfl,trivial⟩ rfl (by simp [dstB]) (by omega) (by omega) (by omega) ?_; rintro _ atb sdb hatb1 hatb2 hsdb1 hsdb2 ⟨xb,rfl,hxb⟩) | (refine callX_draw _ (ih (n - 1) (by omega) (by omega) (by omega)) ⟨.inl rfl,.inl rfl,trivial⟩ rfl (by simp [dstB]) (by omega) (by omega) (by omega) ?_; rintro _ atc sdc hatc1 hatc2 hsdc1 hsdc2 ⟨xc,rfl,hxc⟩) | (refine callX_draw _ (c5) ⟨.inl rfl,.inl rfl,trivial⟩ rfl (by simp [dstB]) (by omega) (by omega) (by omega) ?_; rintro _ atd sdd hatd1 hatd2 hsdd1 hsdd2 ⟨xd,rfl,hxd⟩) | (refine callX_drawL _ _ (c4) ⟨.inl rfl,.inl rfl,trivial⟩ rfl rfl (by decide) (by simp [dstB]) (by omega) (by omega) (by omega) ?_; rintro _ at1 sd1 hat1 hat2 hsd1 hsd2 ⟨x1,rfl,hx1⟩) | (refine callX_draw _ (ih (1 + xd) (by omega) (by omega) (by omega)) ⟨.inl rfl,.inl rfl,trivial⟩ rfl (by simp [dstB]) (by omega) (by omega) (by omega) ?_; rintro _ ate sde hate1 hate2 hsde1 hsde2 ⟨xe,rfl,hxe⟩) | (refine callX_draw _ (ih (n - (1 + xd)) (by omega) (by omega) (by omega)) ⟨.inl rfl,.inl rfl,trivial⟩ rfl (by simp [dstB]) (by omega) (by omega) (by omega) ?_; rintro _ atf sdf hatf1 hatf2 hsdf1 hsdf2 ⟨xf,rfl,hxf⟩) | refine callX_new (l22Join_ok x1 xe xf (by omega) (by omega) (by omega)) rfl (by decide) ?_ | refine callY_new (l22Join_ok x1 xe xf (by omega) (by omega) (by omega)) rfl ?_ | refine hE _ _ ret_ne ?_ | refine hE _ _ exit_ne ?_))<;>(try simp (disch:=first | omega | decide +kernel) only [q',curO,curB,D.bytes,z1,ByteArray.size_append,go_sem,Qa,Qb,Qc,Qd,Qe,↓reduceIte,reduceCtorEq,Qf,Qg,Qh])<;>clear q') | refine hN _ ?_ ?_ Wk.kk | with_reducible refine And.intro ?_ ?_ | with_reducible omega | exact ok_ints | exact cells_ints | exact no_mem | with_reducible exact plain_ints | (refine le_maxLen ?_; omega) | (refine za9 ⟨?_,?_⟩) | (simp only [go_sem,Qc,Qb,zb1,zb2,forall_eq]; done)))
   all_goals (first | omega | (exact retR_draw rfl rfl rfl (by omega) (by omega) (by omega) (by omega) ⟨_,rfl,by (try simp only [ByteArray.size_append,z1,z2,z3]); omega⟩))
end Abs.Y

namespace Abs.Y
open Go Go.Proofs Abs
open Nat renaming reduceEqDiff -> Qa, reduceLT -> Qb, reduceAdd -> Qc, reduceMul -> Qd, reduceSub -> Qe, reduceLeDiff -> Qf, reduceSubDiff -> Qg, reduceBEq -> Qh
open Bool renaming not_eq_true' -> Ba, not_eq_false' -> Bb, and_eq_true -> Bc, or_eq_true -> Bh, or_eq_false_iff -> Be
open Int renaming ofNat_lt -> Ia, ofNat_le -> Ib, not_lt -> Ic, not_le -> Ie
open Decidable renaming not_not -> Da
set_option maxRecDepth 100000
end Abs.Y
