/- What functions of this program compute, over plain data. No condition. -/
import Derived.Test.YtkccabajcdphkaaDoorFD1
import Derived.Test.YtkccabajcdphkaaDoorFacts
import Derived.Test.YtkccabajcdphkaaDoorAbsBox
set_option linter.all false
namespace Abs.Y
open Go Go.Proofs Abs
open Nat renaming reduceEqDiff -> Qa, reduceLT -> Qb, reduceAdd -> Qc, reduceMul -> Qd, reduceSub -> Qe, reduceLeDiff -> Qf, reduceSubDiff -> Qg, reduceBEq -> Qh
open Bool renaming not_eq_true' -> Ba, not_eq_false' -> Bb, and_eq_true -> Bc, or_eq_true -> Bh, or_eq_false_iff -> Be
open Int renaming ofNat_lt -> Ia, ofNat_le -> Ib, not_lt -> Ic, not_le -> Ie
open Decidable renaming not_not -> Da
set_option maxRecDepth 100000
set_option maxHeartbeats 4000000

theorem l22Join_ok (o a b : ByteArray) (h1 : o.size<=1000) (h2 : a.size<=1000000) (h3 : b.size<=1000000) : Ctr Tryd.prog 146 [.str o,.str a,.str b] false (.d (.str (ByteArray.mk #[40]++a++o++b++ByteArray.mk #[41]))) []:=by
 have z1 : (ByteArray.mk #[40]).size=1:=rfl
 have z2 : (ByteArray.mk #[41]).size=1:=rfl
 refine Ctr.of (n:=14) (rs:=[.tmp 6]) Tryd.func146 rfl rfl Tryd.ntmps146 rfl rfl (by kernel_rfl) Tryd.checked.mixed ?_
 simp (disch:=first | omega | decide +kernel) only [go_sem,Qa,Qb,Qc,Qd,Qe,↓reduceIte,reduceCtorEq,Qf,Qg,Qh]
 (repeat' (first | ((first | (refine gsel_split (fun q' => ?_) (fun q' => ?_)<;>(have h':=q')<;>(try simp only [za1,za2,Ba,Bb,za3,ne_eq,za4,za5,za6,Ia,Ib,Ic,Ie,Da,Bc,Bh,Be,za7,za8] at h')<;>try (exfalso; omega)) | (have q':=trivial; first | refine hE _ _ ret_ne ?_ | refine hE _ _ exit_ne ?_))<;>(try simp (disch:=first | omega | decide +kernel) only [q',z1,z2,ByteArray.size_append,go_sem,Qa,Qb,Qc,Qd,Qe,↓reduceIte,reduceCtorEq,Qf,Qg,Qh])<;>clear q') | refine hN _ ?_ ?_ Wk.kk | with_reducible refine And.intro ?_ ?_ | with_reducible omega | exact ok_ints | exact cells_ints | exact no_mem | with_reducible exact plain_ints | (refine le_maxLen ?_; omega) | (refine za9 ⟨?_,?_⟩) | (simp only [go_sem,Qc,Qb,zb1,zb2,forall_eq]; done)))
 all_goals (first | omega | rfl)
theorem formula22_ok {code : List Int} (hc : CodeOK code) : ∀ (m : Nat) (n : Int),1<=n->n<=m->n<=8 ->
 Draws 162 [.d (.int .i64 n)] (16 * n.toNat - 8) (QT (4 * n.toNat - 3)) code:=by
 intro m
 induction m with
 | zero => exact fun n h1 h2 => absurd h2 (by omega)
 | succ m ih =>
   intro n hn1 hn2 hn8 at_ seed h1 h2 h3
   have c1:=one_ok hc 6 (by omega)
   have c2:=one_ok hc 4 (by omega)
   have c3:=ofL_ok hc [⟨#[97]⟩,⟨#[98]⟩,⟨#[99]⟩,⟨#[97]⟩,⟨#[98]⟩,⟨#[100]⟩,⟨#[48]⟩,⟨#[49]⟩,⟨#[102]⟩,⟨#[101]⟩,⟨#[99]⟩,⟨#[97]⟩] 1 (by decide) (by decide)
   have c4:=ofL_ok hc [⟨#[38]⟩,⟨#[124]⟩,⟨#[62]⟩] 1 (by decide) (by decide)
   have c5:=pick_ok hc (n - 1) (by omega)
   simp only [List.map_cons,List.map_nil] at c3 c4
   have z1 : (ByteArray.mk #[126]).size=1:=rfl
   have z2 : (ByteArray.mk #[40]).size=1:=rfl
   have z3 : (ByteArray.mk #[41]).size=1:=rfl
   refine CtrR.of (n:=39) (rs:=[.tmp 4]) Tryd.func162 rfl rfl Tryd.ntmps162 rfl rfl (by kernel_rfl) Tryd.checked.mixed ?_; intro u
   simp (disch:=first | omega | decide +kernel) only [curO,curB,D.bytes,go_sem,Qa,Qb,Qc,Qd,Qe,↓reduceIte,reduceCtorEq,Qf,Qg,Qh]
   (repeat' (first | ((first | (refine gsel_split (fun q' => ?_) (fun q' => ?_)<;>(have h':=q')<;>(try simp only [za1,za2,Ba,Bb,za3,ne_eq,za4,za5,za6,Ia,Ib,Ic,Ie,Da,Bc,Bh,Be,za7,za8] at h')<;>try (exfalso; omega)) | (have q':=trivial; first | (refine callX_draw _ (c1) ⟨.inl rfl,.inl rfl,trivial⟩ rfl (by simp [dstB]) (by omega) (by omega) (by omega) ?_; rintro _ ata sda hata1 hata2 hsda1 hsda2 ⟨xa,rfl,hxa⟩) | (refine callX_drawL _ _ (c3) ⟨.inl rfl,.inl rfl,trivial⟩ rfl rfl (by decide) (by simp [dstB]) (by omega) (by omega) (by omega) ?_; rintro _ at1 sd1 hat1 hat2 hsd1 hsd2 ⟨x1,rfl,hx1⟩) | (refine callX_draw _ (c2) ⟨.inl rfl,.inl rfl,trivial⟩ rfl (by simp [dstB]) (by omega) (by omega) (by omega) ?_; rintro _ atb sdb hatb1 hatb2 hsdb1 hsdb2 ⟨xb,rfl,hxb⟩) | (refine callX_draw _ (ih (n - 1) (by omega) (by omega) (by omega)) ⟨.inl rfl,.inl rfl,trivial⟩ rfl (by simp [dstB]) (by omega) (by omega) (by omega) ?_; rintro _ atc sdc hatc1 hatc2 hsdc1 hsdc2 ⟨xc,rfl,hxc⟩) | (refine callX_draw _ (c5) ⟨.inl rfl,.inl rfl,trivial⟩ rfl (by simp [dstB]) (by omega) (by omega) (by omega) ?_; rintro _ atd sdd hatd1 hatd2 hsdd1 hsdd2 ⟨xd,rfl,hxd⟩) | (refine callX_drawL _ _ (c4) ⟨.inl rfl,.inl rfl,trivial⟩ rfl rfl (by decide) (by simp [dstB]) (by omega) (by omega) (by omega) ?_; rintro _ at1 sd1 hat1 hat2 hsd1 hsd2 ⟨x1,rfl,hx1⟩) | (refine callX_draw _ (ih (1 + xd) (by omega) (by omega) (by omega)) ⟨.inl rfl,.inl rfl,trivial⟩ rfl (by simp [dstB]) (by omega) (by omega) (by omega) ?_; rintro _ ate sde hate1 hate2 hsde1 hsde2 ⟨xe,rfl,hxe⟩) | (refine callX_draw _ (ih (n - (1 + xd)) (by omega) (by omega) (by omega)) ⟨.inl rfl,.inl rfl,trivial⟩ rfl (by simp [dstB]) (by omega) (by omega) (by omega) ?_; rintro _ atf sdf hatf1 hatf2 hsdf1 hsdf2 ⟨xf,rfl,hxf⟩) | refine callX_new (l22Join_ok x1 xe xf (by omega) (by omega) (by omega)) rfl (by decide) ?_ | refine callY_new (l22Join_ok x1 xe xf (by omega) (by omega) (by omega)) rfl ?_ | refine hE _ _ ret_ne ?_ | refine hE _ _ exit_ne ?_))<;>(try simp (disch:=first | omega | decide +kernel) only [q',curO,curB,D.bytes,z1,ByteArray.size_append,go_sem,Qa,Qb,Qc,Qd,Qe,↓reduceIte,reduceCtorEq,Qf,Qg,Qh])<;>clear q') | refine hN _ ?_ ?_ Wk.kk | with_reducible refine And.intro ?_ ?_ | with_reducible omega | exact ok_ints | exact cells_ints | exact no_mem | with_reducible exact plain_ints | (refine le_maxLen ?_; omega) | (refine za9 ⟨?_,?_⟩) | (simp only [go_sem,Qc,Qb,zb1,zb2,forall_eq]; done)))
   all_goals (first | omega | (exact retR_draw rfl rfl rfl (by omega) (by omega) (by omega) (by omega) ⟨_,rfl,by (try simp only [ByteArray.size_append,z1,z2,z3]); omega⟩))
end Abs.Y

namespace Abs.Y
open Go Go.Proofs Abs
open Nat renaming reduceEqDiff -> Qa, reduceLT -> Qb, reduceAdd -> Qc, reduceMul -> Qd, reduceSub -> Qe, reduceLeDiff -> Qf, reduceSubDiff -> Qg, reduceBEq -> Qh
open Bool renaming not_eq_true' -> Ba, not_eq_false' -> Bb, and_eq_true -> Bc, or_eq_true -> Bh, or_eq_false_iff -> Be
open Int renaming ofNat_lt -> Ia, ofNat_le -> Ib, not_lt -> Ic, not_le -> Ie
open Decidable renaming not_not -> Da
set_option maxRecDepth 100000
set_option maxHeartbeats 4000000

theorem formula_ok {code : List Int} (hc : CodeOK code) : Draws 140 [] 130 (QT 29) code:=fun at_ seed h1 h2 h3 => by
 have c1:=amongB_ok hc [1,2,3,3,4,5,6,8] 1 8 (by decide) (by decide)
 simp only [List.map_cons,List.map_nil] at c1
 have c2:=fun (n : Int) (h1 : 1<=n) (h2 : n<=8) => formula22_ok hc n.toNat n h1 (by omega) h2
 refine CtrR.of (n:=13) (rs:=[.tmp 2]) Tryd.func140 rfl rfl Tryd.ntmps140 rfl rfl (by kernel_rfl) Tryd.checked.mixed ?_; intro u
 simp (disch:=first | omega | decide +kernel) only [curO,curB,D.bytes,go_sem,Qa,Qb,Qc,Qd,Qe,↓reduceIte,reduceCtorEq,Qf,Qg,Qh]
 (repeat' (first | ((first | (refine gsel_split (fun q' => ?_) (fun q' => ?_)<;>(have h':=q')<;>(try simp only [za1,za2,Ba,Bb,za3,ne_eq,za4,za5,za6,Ia,Ib,Ic,Ie,Da,Bc,Bh,Be,za7,za8] at h')<;>try (exfalso; omega)) | (have q':=trivial; first | (refine callX_drawL _ _ (c1) ⟨.inl rfl,.inl rfl,trivial⟩ rfl rfl (by decide) (by simp [dstB]) (by omega) (by omega) (by omega) ?_; rintro _ at1 sd1 hat1 hat2 hsd1 hsd2 ⟨x1,rfl,hx1⟩) | (refine callX_draw _ (c2 x1 (by omega) (by omega)) ⟨.inl rfl,.inl rfl,trivial⟩ rfl (by simp [dstB]) (by omega) (by omega) (by omega) ?_; rintro _ atb sdb hatb1 hatb2 hsdb1 hsdb2 ⟨xb,rfl,hxb⟩) | refine callX_new (l22Good_ok xb (by omega)) rfl (by decide) ?_ | refine callY_new (l22Good_ok xb (by omega)) rfl ?_ | refine hE _ _ ret_ne ?_ | refine hE _ _ exit_ne ?_))<;>(try simp (disch:=first | omega | decide +kernel) only [q',curO,curB,D.bytes,go_sem,Qa,Qb,Qc,Qd,Qe,↓reduceIte,reduceCtorEq,Qf,Qg,Qh])<;>clear q') | refine hN _ ?_ ?_ Wk.kk | with_reducible refine And.intro ?_ ?_ | with_reducible omega | exact ok_ints | exact cells_ints | exact no_mem | with_reducible exact plain_ints | (refine le_maxLen ?_; omega) | (refine za9 ⟨?_,?_⟩) | (simp only [go_sem,Qc,Qb,zb1,zb2,forall_eq]; done)))
 all_goals (first | omega | (exact retR_draw rfl rfl rfl (by omega) (by omega) (by omega) (by omega) ⟨_,rfl,by first | omega | decide⟩))
theorem spoilt_ok {code : List Int} (hc : CodeOK code) (t w : ByteArray) (ht : t.size<=100000) (hw : 1<=w.size∧w.size<=60000) : Draws 118 [.d (.str t),.d (.str w)] 6 (QT (t.size + 1)) code:=fun at_ seed h1 h2 h3 => by
 have c1:=pick_ok hc (t.size : Nat) (by omega)
 have c2:=pick_ok hc (w.size : Nat) (by omega)
 have c3:=pick_ok hc 3 (by omega)
 by_cases h0 : t.size=0
 . have ht0 : t=⟨#[]⟩:=ext_BL (List.eq_nil_of_length_eq_zero (by rw [← size_BL]; exact h0))
   have he : (t.toList == (ByteArray.mk #[]).toList)=true:=by rw [ht0]; exact beq_self_eq_true _
   refine CtrR.of (n:=57) (rs:=[.tmp 6]) Tryd.func118 rfl rfl Tryd.ntmps118 rfl rfl (by kernel_rfl) Tryd.checked.mixed ?_; intro u
   simp (disch:=first | omega | decide +kernel) only [curO,curB,D.bytes,he,go_sem,Qa,Qb,Qc,Qd,Qe,↓reduceIte,reduceCtorEq,Qf,Qg,Qh]
   (repeat' (first | ((first | (refine gsel_split (fun q' => ?_) (fun q' => ?_)<;>(have h':=q')<;>(try simp only [za1,za2,Ba,Bb,za3,ne_eq,za4,za5,za6,Ia,Ib,Ic,Ie,Da,Bc,Bh,Be,za7,za8] at h')<;>try (exfalso; omega)) | (have q':=trivial; first | refine hE _ _ ret_ne ?_ | refine hE _ _ exit_ne ?_))<;>(try simp (disch:=first | omega | decide +kernel) only [q',curO,curB,D.bytes,he,go_sem,Qa,Qb,Qc,Qd,Qe,↓reduceIte,reduceCtorEq,Qf,Qg,Qh])<;>clear q') | refine hN _ ?_ ?_ Wk.kk | with_reducible refine And.intro ?_ ?_ | with_reducible omega | exact ok_ints | exact cells_ints | exact no_mem | with_reducible exact plain_ints | (refine le_maxLen ?_; omega) | (refine za9 ⟨?_,?_⟩) | (simp only [go_sem,Qc,Qb,zb1,zb2,forall_eq]; done)))
   all_goals (first | omega | (exact retR_draw rfl rfl rfl (by omega) (by omega) (by omega) (by omega) ⟨_,rfl,by rw [ByteArray.size_extract]; omega⟩))
 . have he : (t.toList == (ByteArray.mk #[]).toList)=false:=by
    rw [beq_eq_false_iff_ne,ByteArray.toList_eq,ByteArray.toList_eq]
    intro e
    apply h0
    rw [size_BL]
    exact congrArg List.length e
   refine CtrR.of (n:=57) (rs:=[.tmp 6]) Tryd.func118 rfl rfl Tryd.ntmps118 rfl rfl (by kernel_rfl) Tryd.checked.mixed ?_; intro u
   simp (disch:=first | omega | decide +kernel) only [curO,curB,D.bytes,he,go_sem,Qa,Qb,Qc,Qd,Qe,↓reduceIte,reduceCtorEq,Qf,Qg,Qh]
   (repeat' (first | ((first | (refine gsel_split (fun q' => ?_) (fun q' => ?_)<;>(have h':=q')<;>(try simp only [za1,za2,Ba,Bb,za3,ne_eq,za4,za5,za6,Ia,Ib,Ic,Ie,Da,Bc,Bh,Be,za7,za8] at h')<;>try (exfalso; omega)) | (have q':=trivial; first | (refine callX_draw _ (c1) ⟨.inl rfl,.inl rfl,trivial⟩ rfl (by simp [dstB]) (by omega) (by omega) (by omega) ?_; rintro _ ata sda hata1 hata2 hsda1 hsda2 ⟨xa,rfl,hxa⟩) | (refine callX_draw _ (c2) ⟨.inl rfl,.inl rfl,trivial⟩ rfl (by simp [dstB]) (by omega) (by omega) (by omega) ?_; rintro _ atb sdb hatb1 hatb2 hsdb1 hsdb2 ⟨xb,rfl,hxb⟩) | (refine callX_draw _ (c3) ⟨.inl rfl,.inl rfl,trivial⟩ rfl (by simp [dstB]) (by omega) (by omega) (by omega) ?_; rintro _ atc sdc hatc1 hatc2 hsdc1 hsdc2 ⟨xc,rfl,hxc⟩) | refine hE _ _ ret_ne ?_ | refine hE _ _ exit_ne ?_))<;>(try simp (disch:=first | omega | decide +kernel) only [q',curO,curB,D.bytes,he,ByteArray.size_append,ByteArray.size_extract,go_sem,Qa,Qb,Qc,Qd,Qe,↓reduceIte,reduceCtorEq,Qf,Qg,Qh])<;>clear q') | refine hN _ ?_ ?_ Wk.kk | with_reducible refine And.intro ?_ ?_ | with_reducible omega | exact ok_ints | exact cells_ints | exact no_mem | with_reducible exact plain_ints | (refine le_maxLen ?_; omega) | (refine za9 ⟨?_,?_⟩) | (simp only [go_sem,Qc,Qb,zb1,zb2,forall_eq]; done)))
   all_goals (first | omega | (exact retR_draw rfl rfl rfl (by omega) (by omega) (by omega) (by omega) ⟨_,rfl,by simp only [ByteArray.size_append,ByteArray.size_extract]; omega⟩))
end Abs.Y

namespace Abs.Y
open Go Go.Proofs Abs
open Nat renaming reduceEqDiff -> Qa, reduceLT -> Qb, reduceAdd -> Qc, reduceMul -> Qd, reduceSub -> Qe, reduceLeDiff -> Qf, reduceSubDiff -> Qg, reduceBEq -> Qh
open Bool renaming not_eq_true' -> Ba, not_eq_false' -> Bb, and_eq_true -> Bc, or_eq_true -> Bh, or_eq_false_iff -> Be
open Int renaming ofNat_lt -> Ia, ofNat_le -> Ib, not_lt -> Ic, not_le -> Ie
open Decidable renaming not_not -> Da
set_option maxRecDepth 100000

theorem firstFalse_ok (x : Fm) (hw : x.wf=true) (hall : ∀ m,m < 64->x.vl (bitF m)=true) :
 Ctr Tryd.prog 116 [.fn (.func 103) [fmD x] []] false (.d (.int .i64 (-1))) []:=by
 have n1:=fmD_na x
 have n2:=fmD_nc x
 have hv:=fun m hm => value_ok m hm x hw
 generalize fmD x=y at *
 refine Ctr.of (n:=13) (rs:=[.tmp 2]) Tryd.func116 rfl rfl Tryd.ntmps116 rfl rfl (by kernel_rfl) Tryd.checked.mixed ?_
 simp (disch:=first | omega | decide +kernel) only [go_sem,Qa,Qb,Qc,Qd,Qe,↓reduceIte,reduceCtorEq,Qf,Qg,Qh]
 refine Ok.loopC [12,11,10,9,8,7,6,5,4,3,2,1] (fun i => [(4,.d (.int .i64 (i : Nat)))]) 64 (fun i => True) (by trivial) (Wk.kk) ?_
 intro R i hN hE hi hI
 by_cases hlt : i < 64
 . have c1:=hv i hlt
   rw [hall i hlt] at c1
   simp (disch:=first | omega | decide +kernel) only [go_sem,Qa,Qb,Qc,Qd,Qe,↓reduceIte,reduceCtorEq,Qf,Qg,Qh]
   (repeat' (first | ((first | (refine gsel_split (fun q' => ?_) (fun q' => ?_)<;>(have h':=q')<;>(try simp only [za1,za2,Ba,Bb,za3,ne_eq,za4,za5,za6,Ia,Ib,Ic,Ie,Da,Bc,Bh,Be,za7,za8] at h')) | (have q':=trivial; first | refine callZ_new (c1) rfl (by decide) ?_ | refine hE _ _ ret_ne ?_ | refine hE _ _ exit_ne ?_))<;>(try simp (disch:=first | omega | decide +kernel) only [q',go_sem,Qa,Qb,Qc,Qd,Qe,↓reduceIte,reduceCtorEq,Qf,Qg,Qh])<;>clear q') | refine hN _ ?_ ?_ Wk.kk | with_reducible refine And.intro ?_ ?_ | with_reducible omega | exact ok_ints | exact cells_ints | exact no_mem | with_reducible exact plain_ints | (refine le_maxLen ?_; omega) | (refine za9 ⟨?_,?_⟩) | (simp only [go_sem,Qc,Qb,zb1,zb2,forall_eq]; done)))
   all_goals (first | omega | assumption | exact absurd trivial ‹¬True› | trivial)
 . simp (disch:=first | omega | decide +kernel) only [go_sem,Qa,Qb,Qc,Qd,Qe,↓reduceIte,reduceCtorEq,Qf,Qg,Qh]
   (repeat' (first | ((first | (refine gsel_split (fun q' => ?_) (fun q' => ?_)<;>(have h':=q')<;>(try simp only [za1,za2,Ba,Bb,za3,ne_eq,za4,za5,za6,Ia,Ib,Ic,Ie,Da,Bc,Bh,Be,za7,za8] at h')) | (have q':=trivial; first | refine hE _ _ ret_ne ?_ | refine hE _ _ exit_ne ?_))<;>(try simp (disch:=first | omega | decide +kernel) only [q',go_sem,Qa,Qb,Qc,Qd,Qe,↓reduceIte,reduceCtorEq,Qf,Qg,Qh])<;>clear q') | refine hN _ ?_ ?_ Wk.kk | with_reducible refine And.intro ?_ ?_ | with_reducible omega | exact ok_ints | exact cells_ints | exact no_mem | with_reducible exact plain_ints | (refine le_maxLen ?_; omega) | (refine za9 ⟨?_,?_⟩) | (simp only [go_sem,Qc,Qb,zb1,zb2,forall_eq]; done)))
   all_goals (first | omega | assumption | exact absurd trivial ‹¬True› | trivial)
theorem isTaut_ok (s : ByteArray) (hs : s.size<=1000000) (hk : okS s=true) (hall : ∀ m,m < 64->(fmS s).vl (bitF m)=true) :
 Ctr Tryd.prog 40 [.str s] true (.tup [.d (.bool true),.d (.bool true)]) []:=by
 obtain ⟨x,hx,c1⟩:=parse_ok s hs
 rw [hx hk,hk] at c1
 have c2:=firstFalse_ok (fmS s) (okS_spec hk).1 hall
 have n1:=fmD_na (fmS s)
 have n2:=fmD_nc (fmS s)
 generalize fmD (fmS s)=y at *
 refine Ctr.of (n:=17) (rs:=[.tmp 2,.tmp 3]) Tryd.func40 rfl rfl Tryd.ntmps40 rfl rfl (by kernel_rfl) Tryd.checked.mixed ?_
 simp (disch:=first | omega | decide +kernel) only [go_sem,Qa,Qb,Qc,Qd,Qe,↓reduceIte,reduceCtorEq,Qf,Qg,Qh]
 (repeat' (first | ((first | (refine gsel_split (fun q' => ?_) (fun q' => ?_)<;>(have h':=q')<;>(try simp only [za1,za2,Ba,Bb,za3,ne_eq,za4,za5,za6,Ia,Ib,Ic,Ie,Da,Bc,Bh,Be,za7,za8] at h')<;>try (exfalso; omega)) | (have q':=trivial; first | refine callX_shared (c1) rfl (by decide) ?_ | refine callY_shared (c1) rfl ?_ | refine callX_new (c2) rfl (by decide) ?_ | refine callY_new (c2) rfl ?_ | refine hE _ _ ret_ne ?_ | refine hE _ _ exit_ne ?_))<;>(try simp (disch:=first | omega | decide +kernel) only [q',go_sem,Qa,Qb,Qc,Qd,Qe,↓reduceIte,reduceCtorEq,Qf,Qg,Qh])<;>clear q') | refine hN _ ?_ ?_ Wk.kk | with_reducible refine And.intro ?_ ?_ | with_reducible omega | exact ok_ints | exact cells_ints | exact no_mem | with_reducible exact plain_ints | (refine le_maxLen ?_; omega) | (refine za9 ⟨?_,?_⟩) | (simp only [go_sem,Qc,Qb,zb1,zb2,forall_eq]; done)))
 all_goals (first | omega | assumption | exact absurd trivial ‹¬True› | exact ret_s2 [] rfl rfl)
def f3 (a b c : Fm) (d : UInt8) : Fm:=if d=97 then a else if d=98 then b else c
theorem abc_let {c : UInt8} (h : (Fm.lf c).abc=true) (h' : isLet c=true) : c=97∨c=98∨c=99:=by
 rw [Fm.abc,Bh,decide_eq_true_eq,decide_eq_true_eq] at h
 rcases h with h | h | h
 . exact h
 . exact absurd h (let_ne h').1
 . exact absurd h (let_ne h').2
theorem size_ng (a : Fm) : (Fm.ng a).T.size=a.T.size + 1:=by simp only [size_BL,BL_T,Fm.tl,List.length_cons]
theorem size_jn (o : UInt8) (a b : Fm) : (Fm.jn o a b).T.size=a.T.size + b.T.size + 3:=by simp only [size_BL,BL_T,Fm.tl,List.length_cons,List.length_append,List.length_nil]; omega
theorem fm_flat (A B C : Fm) : flat [fmD A,fmD B,fmD C]=[fmD A,fmD B,fmD C]:=by
 obtain ⟨_,_,_,e⟩:=fmD_sh A
 obtain ⟨_,_,_,e'⟩:=fmD_sh B
 obtain ⟨_,_,_,e''⟩:=fmD_sh C
 rw [e,e',e'']; rfl
theorem fm_g0 (A : Fm) : (fmD A).cells.getD 0 .nilptr=fmD A:=by
 obtain ⟨_,_,_,e⟩:=fmD_sh A
 rw [e]; rfl
theorem isp : isPtrT Tryd.prog 119=true:=by kernel_rfl
set_option maxHeartbeats 8000000 in
theorem put_ok (A B C : Fm) : ∀ x : Fm,x.wf=true->x.abc=true->(x.sub (f3 A B C)).T.size<=1000000 ->
 Ctr Tryd.prog 149 [fmD x,.agg [fmD A,fmD B,fmD C]] true (.d (fmD (x.sub (f3 A B C)))) []
 | .lf c, hw, ha, hs => by
   have cl:=isLetter_ok c
   have hfl:=fm_flat A B C
   have na:=fmD_na A
   have nb:=fmD_na B
   have nc:=fmD_na C
   have ma:=fmD_nc A
   have mb:=fmD_nc B
   have mc:=fmD_nc C
   cases hL : isLet c with
   | true =>
     rw [hL] at cl
     rw [Fm.sub,if_pos hL]
     have hf : fmD (.lf c)=.ptr (.agg [.int .u8 c.toNat,.nilptr,.nilptr,.str (Fm.lf c).T]):=rfl
     rw [hf]
     have e0 : el [fmD A,fmD B,fmD C] 0=fmD A:=rfl
     have e1 : el [fmD A,fmD B,fmD C] 1=fmD B:=rfl
     have e2 : el [fmD A,fmD B,fmD C] 2=fmD C:=rfl
     have t0 : Int.toNat 0=0:=rfl
     have t1 : Int.toNat 1=1:=rfl
     have t2 : Int.toNat 2=2:=rfl
     generalize (Fm.lf c).T=t at *
     have key : ∃ (i : Int) (y : D),IntKind.u8.wrap ((c.toNat : Int) - 97)=i∧0<=i∧i < 3∧el [fmD A,fmD B,fmD C] i.toNat=y∧fmD (f3 A B C c)=y∧y.isAgg=false∧y.cells.length=1∧y.cells.getD 0 .nilptr=y:=by
      rcases abc_let ha hL with rfl | rfl | rfl
      . exact ⟨0,_,by decide,by decide,by decide,rfl,rfl,na,ma,fm_g0 _⟩
      . exact ⟨1,_,by decide,by decide,by decide,rfl,rfl,nb,mb,fm_g0 _⟩
      . exact ⟨2,_,by decide,by decide,by decide,rfl,rfl,nc,mc,fm_g0 _⟩
     obtain ⟨i,y,hi,i0,i3,he,hy,hya,hyc,hyg⟩:=key
     rw [hy]
     generalize fmD A=pa at *
     generalize fmD B=pb at *
     generalize fmD C=pc at *
     refine Ctr.of (n:=55) (rs:=[.tmp 4]) Tryd.func149 rfl rfl Tryd.ntmps149 rfl rfl (by kernel_rfl) Tryd.checked.mixed ?_
     simp (disch:=first | omega | decide +kernel) only [hfl,hi,he,hyg,go_sem,Qa,Qb,Qc,Qd,Qe,↓reduceIte,reduceCtorEq,Qf,Qg,Qh]
     (repeat' (first | ((first | (refine gsel_split (fun q' => ?_) (fun q' => ?_)<;>(have h':=q')<;>(try simp only [za1,za2,Ba,Bb,za3,ne_eq,za4,za5,za6,Ia,Ib,Ic,Ie,Da,Bc,Bh,Be,za7,za8] at h')<;>try (exfalso; omega)) | (have q':=trivial; first | refine callX_new (cl) rfl (by decide) ?_ | refine callY_new (cl) rfl ?_ | refine hE _ _ ret_ne ?_ | refine hE _ _ exit_ne ?_))<;>(try simp (disch:=first | omega | decide +kernel) only [q',hfl,hi,he,hyg,go_sem,Qa,Qb,Qc,Qd,Qe,↓reduceIte,reduceCtorEq,Qf,Qg,Qh])<;>clear q') | refine hN _ ?_ ?_ Wk.kk | with_reducible refine And.intro ?_ ?_ | with_reducible omega | exact ok_ints | exact cells_ints | exact no_mem | with_reducible exact plain_ints | (refine le_maxLen ?_; omega) | (refine za9 ⟨?_,?_⟩) | (simp only [go_sem,Qc,Qb,zb1,zb2,forall_eq]; done)))
     all_goals (first | omega | assumption | exact isp | rfl | exact absurd trivial ‹¬True› | exact ret_s1 [] rfl)
   | false =>
     rw [hL] at cl
     rw [Fm.sub,if_neg (by rw [hL]; simp)]
     generalize fmD A=pa at *
     generalize fmD B=pb at *
     generalize fmD C=pc at *
     have hf : fmD (.lf c)=.ptr (.agg [.int .u8 c.toNat,.nilptr,.nilptr,.str (Fm.lf c).T]):=rfl
     rw [hf]
     generalize (Fm.lf c).T=t at *
     refine Ctr.of (n:=55) (rs:=[.tmp 4]) Tryd.func149 rfl rfl Tryd.ntmps149 rfl rfl (by kernel_rfl) Tryd.checked.mixed ?_
     simp (disch:=first | omega | decide +kernel) only [hfl,go_sem,Qa,Qb,Qc,Qd,Qe,↓reduceIte,reduceCtorEq,Qf,Qg,Qh]
     (repeat' (first | ((first | (refine gsel_split (fun q' => ?_) (fun q' => ?_)<;>(have h':=q')<;>(try simp only [za1,za2,Ba,Bb,za3,ne_eq,za4,za5,za6,Ia,Ib,Ic,Ie,Da,Bc,Bh,Be,za7,za8] at h')<;>try (exfalso; omega)) | (have q':=trivial; first | refine callX_new (cl) rfl (by decide) ?_ | refine callY_new (cl) rfl ?_ | refine hE _ _ ret_ne ?_ | refine hE _ _ exit_ne ?_))<;>(try simp (disch:=first | omega | decide +kernel) only [q',hfl,go_sem,Qa,Qb,Qc,Qd,Qe,↓reduceIte,reduceCtorEq,Qf,Qg,Qh])<;>clear q') | refine hN _ ?_ ?_ Wk.kk | with_reducible refine And.intro ?_ ?_ | with_reducible omega | exact ok_ints | exact cells_ints | exact no_mem | with_reducible exact plain_ints | (refine le_maxLen ?_; omega) | (refine za9 ⟨?_,?_⟩) | (simp only [go_sem,Qc,Qb,zb1,zb2,forall_eq]; done)))
     all_goals (first | omega | assumption | exact isp | rfl | exact absurd trivial ‹¬True› | exact ret_s1 [] rfl)
 | .ng a, hw, ha, hs => by
   rw [Fm.sub,size_ng] at hs
   have c1:=put_ok A B C a hw ha (by omega)
   have c2:=not_ok (a.sub (f3 A B C)) (by omega)
   have n1:=fmD_na a
   have n2:=fmD_nc a
   have cl:=isLetter_ok 126
   rw [show isLet 126=false from rfl,show ((126 : UInt8).toNat : Int)=126 from rfl] at cl
   rw [Fm.sub]
   generalize fmD (Fm.ng (a.sub (f3 A B C)))=z at *
   generalize fmD (a.sub (f3 A B C))=y at *
   obtain ⟨c,p,q,e⟩:=fmD_sh a
   have hf : fmD (.ng a)=.ptr (.agg [.int .u8 126,fmD a,.nilptr,.str (Fm.ng a).T]):=rfl
   rw [hf]
   rw [e] at c1 ⊢
   generalize (Fm.ng a).T=t at *
   generalize a.T=t' at *
   have hfl:=fm_flat A B C
   have na:=fmD_na A
   have nb:=fmD_na B
   have nc:=fmD_na C
   have ma:=fmD_nc A
   have mb:=fmD_nc B
   have mc:=fmD_nc C
   generalize fmD A=pa at *
   generalize fmD B=pb at *
   generalize fmD C=pc at *
   refine Ctr.of (n:=55) (rs:=[.tmp 4]) Tryd.func149 rfl rfl Tryd.ntmps149 rfl rfl (by kernel_rfl) Tryd.checked.mixed ?_
   simp (disch:=first | omega | decide +kernel) only [hfl,go_sem,Qa,Qb,Qc,Qd,Qe,↓reduceIte,reduceCtorEq,Qf,Qg,Qh]
   (repeat' (first | ((first | (refine gsel_split (fun q' => ?_) (fun q' => ?_)<;>(have h':=q')<;>(try simp only [za1,za2,Ba,Bb,za3,ne_eq,za4,za5,za6,Ia,Ib,Ic,Ie,Da,Bc,Bh,Be,za7,za8] at h')<;>try (exfalso; omega)) | (have q':=trivial; first | refine callX_new (cl) rfl (by decide) ?_ | refine callY_new (cl) rfl ?_ | refine callX_shared (c1) rfl (by decide) ?_ | refine callY_shared (c1) rfl ?_ | refine callX_shared (c2) rfl (by decide) ?_ | refine callY_shared (c2) rfl ?_ | refine hE _ _ ret_ne ?_ | refine hE _ _ exit_ne ?_))<;>(try simp (disch:=first | omega | decide +kernel) only [q',hfl,go_sem,Qa,Qb,Qc,Qd,Qe,↓reduceIte,reduceCtorEq,Qf,Qg,Qh])<;>clear q') | refine hN _ ?_ ?_ Wk.kk | with_reducible refine And.intro ?_ ?_ | with_reducible omega | exact ok_ints | exact cells_ints | exact no_mem | with_reducible exact plain_ints | (refine le_maxLen ?_; omega) | (refine za9 ⟨?_,?_⟩) | (simp only [go_sem,Qc,Qb,zb1,zb2,forall_eq]; done)))
   all_goals (first | omega | assumption | exact isp | rfl | exact absurd trivial ‹¬True› | exact ret_s1 [] rfl)
 | .jn o a b, hw, ha, hs => by
   rw [Fm.sub,size_jn] at hs
   have hw' : (isOp o && a.wf && b.wf)=true:=hw
   have ha' : (a.abc && b.abc)=true:=ha
   simp only [Bc] at hw' ha'
   have c1:=put_ok A B C a hw'.1.2 ha'.1 (by omega)
   have c2:=put_ok A B C b hw'.2 ha'.2 (by omega)
   have c3:=join_ok o (a.sub (f3 A B C)) (b.sub (f3 A B C)) (op_128 hw'.1.1) (by omega) (by omega)
   have cl:=isLetter_ok o
   have hl : isLet o=false:=by
    have:=of_decide_eq_true hw'.1.1
    rcases this with h | h | h<;>subst h<;>rfl
   rw [hl] at cl
   rw [Fm.sub]
   generalize fmD (Fm.jn o (a.sub (f3 A B C)) (b.sub (f3 A B C)))=z at *
   generalize fmD (a.sub (f3 A B C))=y at *
   generalize fmD (b.sub (f3 A B C))=y' at *
   obtain ⟨c,p,q,e⟩:=fmD_sh a
   obtain ⟨c',p',q',e'⟩:=fmD_sh b
   have hf : fmD (.jn o a b)=.ptr (.agg [.int .u8 o.toNat,fmD a,fmD b,.str (Fm.jn o a b).T]):=rfl
   rw [hf]
   rw [e] at c1 ⊢
   rw [e'] at c2 ⊢
   generalize (Fm.jn o a b).T=t at *
   generalize a.T=t' at *
   generalize b.T=t'' at *
   have hfl:=fm_flat A B C
   have na:=fmD_na A
   have nb:=fmD_na B
   have nc:=fmD_na C
   have ma:=fmD_nc A
   have mb:=fmD_nc B
   have mc:=fmD_nc C
   generalize fmD A=pa at *
   generalize fmD B=pb at *
   generalize fmD C=pc at *
   refine Ctr.of (n:=55) (rs:=[.tmp 4]) Tryd.func149 rfl rfl Tryd.ntmps149 rfl rfl (by kernel_rfl) Tryd.checked.mixed ?_
   simp (disch:=first | omega | decide +kernel) only [hfl,go_sem,Qa,Qb,Qc,Qd,Qe,↓reduceIte,reduceCtorEq,Qf,Qg,Qh]
   (repeat' (first | ((first | (refine gsel_split (fun q' => ?_) (fun q' => ?_)<;>(have h':=q')<;>(try simp only [za1,za2,Ba,Bb,za3,ne_eq,za4,za5,za6,Ia,Ib,Ic,Ie,Da,Bc,Bh,Be,za7,za8] at h')<;>try (exfalso; omega)) | (have q':=trivial; first | refine callX_new (cl) rfl (by decide) ?_ | refine callY_new (cl) rfl ?_ | refine callX_shared (c1) rfl (by decide) ?_ | refine callY_shared (c1) rfl ?_ | refine callX_shared (c2) rfl (by decide) ?_ | refine callY_shared (c2) rfl ?_ | refine callX_shared (c3) rfl (by decide) ?_ | refine callY_shared (c3) rfl ?_ | refine hE _ _ ret_ne ?_ | refine hE _ _ exit_ne ?_))<;>(try simp (disch:=first | omega | decide +kernel) only [q',hfl,go_sem,Qa,Qb,Qc,Qd,Qe,↓reduceIte,reduceCtorEq,Qf,Qg,Qh])<;>clear q') | refine hN _ ?_ ?_ Wk.kk | with_reducible refine And.intro ?_ ?_ | with_reducible omega | exact ok_ints | exact cells_ints | exact no_mem | with_reducible exact plain_ints | (refine le_maxLen ?_; omega) | (refine za9 ⟨?_,?_⟩) | (simp only [go_sem,Qc,Qb,zb1,zb2,forall_eq]; done)))
   all_goals (first | omega | assumption | exact isp | rfl | exact absurd trivial ‹¬True› | exact ret_s1 [] rfl)
end Abs.Y

namespace Abs.Y
open Go Go.Proofs Abs
open Nat renaming reduceEqDiff -> Qa, reduceLT -> Qb, reduceAdd -> Qc, reduceMul -> Qd, reduceSub -> Qe, reduceLeDiff -> Qf, reduceSubDiff -> Qg, reduceBEq -> Qh
open Bool renaming not_eq_true' -> Ba, not_eq_false' -> Bb, and_eq_true -> Bc, or_eq_true -> Bh, or_eq_false_iff -> Be
open Int renaming ofNat_lt -> Ia, ofNat_le -> Ib, not_lt -> Ic, not_le -> Ie
open Decidable renaming not_not -> Da
set_option maxRecDepth 100000

theorem sch_el : ∀ j,j < 10->schemesD.getD j .nilptr=.str (sch j).T
 | 0,_ | 1,_ | 2,_ | 3,_ | 4,_ | 5,_ | 6,_ | 7,_ | 8,_ | 9,_ => rfl
theorem sch_sz : ∀ j,(sch j).T.size<=30
 | 0 | 1 | 2 | 3 | 4 | 5 | 6 | 7 | 8 => by decide
 | _ + 9 => by show 1<=30; omega
theorem size_sub {f : UInt8->Fm} (hf : ∀ d,(f d).T.size<=80) : ∀ x : Fm,(x.sub f).T.size<=80 * x.T.size
 | .lf c => by
   have h1 : (Fm.lf c).T.size=1:=rfl
   rw [Fm.sub]
   split
   . have:=hf c; omega
   . omega
 | .ng a => by rw [Fm.sub,size_ng,size_ng]; have:=size_sub hf a; omega
 | .jn o a b => by rw [Fm.sub,size_jn,size_jn]; have:=size_sub hf a; have:=size_sub hf b; omega
theorem f3_sz {A B C : Fm} (ha : A.T.size<=80) (hb : B.T.size<=80) (hc : C.T.size<=80) (d : UInt8) : (f3 A B C d).T.size<=80:=by
 unfold f3; split
 . exact ha
 . split
   . exact hb
   . exact hc
theorem fm_cells (A : Fm) : (fmD A).cells=[fmD A]:=by
 obtain ⟨_,_,_,e⟩:=fmD_sh A
 rw [e]; rfl
theorem parse_sch (j : Nat) : Ctr Tryd.prog 102 [.str (sch j).T] true (.tup [.d (fmD (sch j)),.d (.bool true)]) []:=by
 have hz:=sch_sz j
 obtain ⟨x,hx,c1⟩:=parse_ok (sch j).T (by omega)
 have hk : okS (sch j).T=true:=okS_T (sch_wf j) (by omega)
 rw [hx hk,hk,fmS_T (sch_wf j)] at c1
 exact c1
theorem caseOf_ok (j : Nat) (hj : j < 10) (A B C : Fm) (hs : ((sch j).sub (f3 A B C)).T.size<=1000000) :
 Ctr Tryd.prog 108 [.int .i64 (j + 1),fmD A,fmD B,fmD C] true (.d (fmD ((sch j).sub (f3 A B C)))) []:=by
 have c1:=parse_sch j
 have c2:=put_ok A B C (sch j) (sch_wf j) (sch_abc j) hs
 have na:=fmD_na A
 have nb:=fmD_na B
 have nc:=fmD_na C
 have ma:=fmD_nc A
 have mb:=fmD_nc B
 have mc:=fmD_nc C
 have hfl:=fm_flat A B C
 have ka:=fm_cells A
 have kb:=fm_cells B
 have kc:=fm_cells C
 have hg:=sch_el j hj
 have ra : ∀ x : Fm,argV (fmD x)=.d (fmD x):=fun x => by obtain ⟨_,_,_,e⟩:=fmD_sh x; rw [e]; rfl
 have ra1:=ra A
 have ra2:=ra B
 have ra3:=ra C
 clear ra
 have hG : globD 0=some (.ptr (.agg schemesD)):=rfl
 have t1 : (((j : Nat) : Int) + 1 - 1).toNat=j:=by omega
 have e1 : ((j : Nat) : Int) + 1 - 1=(j : Nat):=by omega
 generalize (sch j).T=t at *
 generalize fmD (sch j)=x at *
 generalize fmD ((sch j).sub (f3 A B C))=z at *
 generalize fmD A=pa at *
 generalize fmD B=pb at *
 generalize fmD C=pc at *
 have hgl : schemesD.length=10:=rfl
 generalize hL : schemesD=L at *
 refine Ctr.of (n:=25) (rs:=[.tmp 8]) Tryd.func108 rfl rfl Tryd.ntmps108 rfl rfl (by kernel_rfl) Tryd.checked.mixed ?_
 simp (disch:=first | omega | decide +kernel) only [Nat.mul_one,ka,kb,kc,List.length_cons,List.length_nil,hG,ra1,ra2,ra3,hg,t1,e1,Int.toNat_natCast,hfl,go_sem,Qa,Qb,Qc,Qd,Qe,↓reduceIte,reduceCtorEq,Qf,Qg,Qh]
 (repeat' (first | ((first | (refine gsel_split (fun q' => ?_) (fun q' => ?_)<;>(have h':=q')<;>(try simp only [za1,za2,Ba,Bb,za3,ne_eq,za4,za5,za6,Ia,Ib,Ic,Ie,Da,Bc,Bh,Be,za7,za8] at h')<;>try (exfalso; omega)) | (have q':=trivial; first | refine callX_shared (c1) rfl (by decide) ?_ | refine callY_shared (c1) rfl ?_ | refine callX_shared (c2) rfl (by decide) ?_ | refine callY_shared (c2) rfl ?_ | refine hE _ _ ret_ne ?_ | refine hE _ _ exit_ne ?_))<;>(try simp (disch:=first | omega | decide +kernel) only [q',Nat.mul_one,ka,kb,kc,List.length_cons,List.length_nil,hG,ra1,ra2,ra3,hg,t1,e1,Int.toNat_natCast,hfl,go_sem,Qa,Qb,Qc,Qd,Qe,↓reduceIte,reduceCtorEq,Qf,Qg,Qh])<;>clear q') | refine hN _ ?_ ?_ Wk.kk | with_reducible refine And.intro ?_ ?_ | with_reducible omega | exact ok_ints | exact cells_ints | exact no_mem | with_reducible exact plain_ints | (refine le_maxLen ?_; omega) | (refine za9 ⟨?_,?_⟩) | (simp only [go_sem,Qc,Qb,zb1,zb2,forall_eq]; done)))
 all_goals (first | omega | assumption | exact isp | rfl | exact absurd trivial ‹¬True› | exact ret_s1 [] rfl)
end Abs.Y

namespace Abs.Y
open Go Go.Proofs Abs
open Nat renaming reduceEqDiff -> Qa, reduceLT -> Qb, reduceAdd -> Qc, reduceMul -> Qd, reduceSub -> Qe, reduceLeDiff -> Qf, reduceSubDiff -> Qg, reduceBEq -> Qh
open Bool renaming not_eq_true' -> Ba, not_eq_false' -> Bb, and_eq_true -> Bc, or_eq_true -> Bh, or_eq_false_iff -> Be
open Int renaming ofNat_lt -> Ia, ofNat_le -> Ib, not_lt -> Ic, not_le -> Ie
open Decidable renaming not_not -> Da
set_option maxRecDepth 100000

theorem l24Schemes_ok : Ctr Tryd.prog 117 [] true (.d (.slice schemesD)) []:=by
 unfold schemesD
 refine Ctr.of (n:=2) (rs:=[.tmp 0]) Tryd.func117 rfl rfl Tryd.ntmps117 rfl rfl (by kernel_rfl) Tryd.checked.mixed ?_
 simp (disch:=first | omega | decide +kernel) only [go_sem,Qa,Qb,Qc,Qd,Qe,↓reduceIte,reduceCtorEq,Qf,Qg,Qh]
 (repeat' (first | ((first | (refine gsel_split (fun q' => ?_) (fun q' => ?_)<;>(have h':=q')<;>(try simp only [za1,za2,Ba,Bb,za3,ne_eq,za4,za5,za6,Ia,Ib,Ic,Ie,Da,Bc,Bh,Be,za7,za8] at h')<;>try (exfalso; omega)) | (have q':=trivial; first | refine hE _ _ ret_ne ?_ | refine hE _ _ exit_ne ?_))<;>(try simp (disch:=first | omega | decide +kernel) only [q',go_sem,Qa,Qb,Qc,Qd,Qe,↓reduceIte,reduceCtorEq,Qf,Qg,Qh])<;>clear q') | refine hN _ ?_ ?_ Wk.kk | with_reducible refine And.intro ?_ ?_ | with_reducible omega | exact ok_ints | exact cells_ints | exact no_mem | with_reducible exact plain_ints | (refine le_maxLen ?_; omega) | (refine za9 ⟨?_,?_⟩) | (simp only [go_sem,Qc,Qb,zb1,zb2,forall_eq]; done)))
 all_goals (first | omega | assumption | rfl | exact ret_s1 [1] rfl)
def subL (a b c : List UInt8) (d : UInt8) : List UInt8:=if d=97 then a else if d=98 then b else if d=99 then c else [d]
def caseL (j : Nat) (a b c : ByteArray) : List UInt8:=(sch j).tl.flatMap (subL (BL a) (BL b) (BL c))
def caseT (j : Nat) (a b c : ByteArray) : ByteArray:=⟨(caseL j a b c).toArray⟩
theorem subL_len {a b c : List UInt8} {n : Nat} (h1 : 1<=n) (ha : a.length<=n) (hb : b.length<=n) (hc : c.length<=n) (d : UInt8) : (subL a b c d).length<=n:=by
 unfold subL; split
 . exact ha
 . split
   . exact hb
   . split
     . exact hc
     . exact h1
theorem flat_len {f : UInt8->List UInt8} {n : Nat} (h : ∀ d,(f d).length<=n) : ∀ l : List UInt8,(l.flatMap f).length<=n * l.length
 | [] => by simp
 | d :: l => by
   rw [List.flatMap_cons,List.length_append,List.length_cons]
   have:=h d
   have:=flat_len h l
   rw [Nat.mul_add]; omega
theorem BL_app (s t : ByteArray) : BL (s++t)=BL s++BL t:=by
 show (s++t).data.toList=_
 rw [ByteArray.data_append,Array.toList_append]
theorem ext_at {s : ByteArray} {k : Nat} (h : k < s.size) : s.extract k (k + 1)=⟨#[(BL s).getD k 0]⟩:=by
 apply ext_BL
 show (s.extract k (k + 1)).data.toList=[(BL s).getD k 0]
 rw [ByteArray.data_extract,Array.toList_extract,drop_cons' h]
where
 drop_cons' {s : ByteArray} {k : Nat} (h : k < s.size) : List.extract s.data.toList k (k + 1)=[(BL s).getD k 0]:=by
  rw [List.extract_eq_drop_take,show k + 1 - k=1 by omega]
  have:=drop_cons h
  rw [show s.data.toList=BL s from rfl,this]; rfl
set_option maxHeartbeats 8000000 in
theorem l24Case_ok (j : Nat) (hj : j < 10) (a b c : ByteArray) (ha : a.size<=1000) (hb : b.size<=1000) (hc : c.size<=1000) :
 Ctr Tryd.prog 111 [.int .i64 ((j + 1 : Nat) : Int),.str a,.str b,.str c] false (.d (.str (caseT j a b c))) []:=by
 have c1:=l24Schemes_ok
 have hg : el schemesD j=.str (sch j).T:=sch_el j hj
 have hgl : schemesD.length=10:=rfl
 have hz:=sch_sz j
 have hcl : caseL j a b c=(BL (sch j).T).flatMap (subL (BL a) (BL b) (BL c)):=rfl
 generalize (sch j).T=s at *
 generalize hL : schemesD=L at *
 have e1 : ((j + 1 : Nat) : Int) - 1=(j : Nat):=by omega
 refine Ctr.of (n:=49) (rs:=[.tmp 8]) Tryd.func111 rfl rfl Tryd.ntmps111 rfl rfl (by kernel_rfl) Tryd.checked.mixed ?_
 simp (disch:=first | omega | decide +kernel) only [e1,hg,hgl,Int.toNat_natCast,go_sem,Qa,Qb,Qc,Qd,Qe,↓reduceIte,reduceCtorEq,Qf,Qg,Qh]
 (repeat' (first | ((first | (refine gsel_split (fun q' => ?_) (fun q' => ?_)<;>(have h':=q')<;>(try simp only [za1,za2,Ba,Bb,za3,ne_eq,za4,za5,za6,Ia,Ib,Ic,Ie,Da,Bc,Bh,Be,za7,za8] at h')<;>try (exfalso; omega)) | (have q':=trivial; first | refine callX_shared (c1) rfl (by decide) ?_ | refine callY_shared (c1) rfl ?_ | refine hE _ _ ret_ne ?_ | refine hE _ _ exit_ne ?_))<;>(try simp (disch:=first | omega | decide +kernel) only [q',e1,hg,hgl,Int.toNat_natCast,go_sem,Qa,Qb,Qc,Qd,Qe,↓reduceIte,reduceCtorEq,Qf,Qg,Qh])<;>clear q') | refine hN _ ?_ ?_ Wk.kk | with_reducible refine And.intro ?_ ?_ | with_reducible omega | exact ok_ints | exact cells_ints | exact no_mem | with_reducible exact plain_ints | (refine le_maxLen ?_; omega) | (refine za9 ⟨?_,?_⟩) | (simp only [go_sem,Qc,Qb,zb1,zb2,forall_eq]; done)))
 all_goals (first | omega | skip)
 clear c1
 have hn : ∀ d,(subL (BL a) (BL b) (BL c) d).length<=1000:=subL_len (by omega) ha hb hc
 refine Ok.loopN [48,47,46,45,44,43,42,41,40,39,38,37,36,35,34,33,32,31,30,29,28,27,26,25,24,23,22,21,20,19,18,17,16,15,14,13,12,11,10,7,6,5,4,0] (fun i (w : ByteArray) => [(11,.d (.int .i64 (i : Nat))),(10,.d (.str w))]) (fun _ _ => []) s.size (fun i w => BL w=((BL s).take i).flatMap (subL (BL a) (BL b) (BL c))) (ByteArray.mk #[]) rfl (Wk.kk) ?_
 rintro R i w hN hE hi hw
 have hwz : w.size<=1000 * i:=by
  rw [size_BL,hw]
  have:=flat_len hn ((BL s).take i)
  rw [List.length_take] at this
  have : min i (BL s).length<=i:=Nat.min_le_left _ _
  omega
 by_cases hlt : i < s.size
 . obtain ⟨d,hd⟩ : ∃ d,d=(BL s).getD i 0:=⟨_,rfl⟩
   have e0 : s.data.toList.getD i 0=d:=hd.symm
   have ex:=ext_at hlt
   rw [← hd] at ex
   have hsu : ((BL s).take (i + 1)).flatMap (subL (BL a) (BL b) (BL c))=BL w++subL (BL a) (BL b) (BL c) d:=by
    rw [hw,take_succ 0 (BL s) i (by rw [← size_BL]; exact hlt),List.flatMap_append,← hd]
    simp
   have ei : ((i : Nat) : Int) + 1=((i + 1 : Nat) : Int):=by omega
   have zd : (ByteArray.mk #[d]).size=1:=rfl
   by_cases h97 : d=97
   . have hn' : (d.toNat : Int)=97:=by rw [h97]; rfl
     rw [subL,if_pos h97] at hsu
     simp (disch:=first | omega | decide +kernel) only [e0,hn',Int.toNat_natCast,go_sem,Qa,Qb,Qc,Qd,Qe,↓reduceIte,reduceCtorEq,Qf,Qg,Qh]
     (repeat' (first | ((first | (refine gsel_split (fun q' => ?_) (fun q' => ?_)<;>(have h':=q')<;>(try simp only [za1,za2,Ba,Bb,za3,ne_eq,za4,za5,za6,Ia,Ib,Ic,Ie,Da,Bc,Bh,Be,za7,za8] at h')<;>try (exfalso; omega)) | (have q':=trivial; first | refine hE _ _ ret_ne ?_ | refine hE _ _ exit_ne ?_))<;>(try simp (disch:=first | omega | decide +kernel) only [q',e0,hn',Int.toNat_natCast,go_sem,Qa,Qb,Qc,Qd,Qe,↓reduceIte,reduceCtorEq,Qf,Qg,Qh])<;>clear q') | refine hN _ ?_ ?_ Wk.kk | with_reducible refine And.intro ?_ ?_ | with_reducible omega | exact ok_ints | exact cells_ints | exact no_mem | with_reducible exact plain_ints | (refine le_maxLen ?_; omega) | (refine za9 ⟨?_,?_⟩) | (simp only [go_sem,Qc,Qb,zb1,zb2,forall_eq]; done)))
     all_goals (first | omega | exact absurd trivial ‹¬True› | (refine hN (w++a) _ (by omega) (by rw [BL_app,hsu]) (by refine Wk.auto ?_ ?_<;>simp [extraK,lk,killL,St.kill,wipeO,wipeS,AV.has,AV.hasL,AO.wipe,List.map_set,updSt,insL,dropS,ins,])))
   . have hn97 : ¬ (d.toNat : Int)=97:=fun h => h97 (toN_eq.1 h)
     by_cases h98 : d=98
     . have hn' : (d.toNat : Int)=98:=by rw [h98]; rfl
       rw [subL,if_neg h97,if_pos h98] at hsu
       simp (disch:=first | omega | decide +kernel) only [e0,hn',Int.toNat_natCast,go_sem,Qa,Qb,Qc,Qd,Qe,↓reduceIte,reduceCtorEq,Qf,Qg,Qh]
       (repeat' (first | ((first | (refine gsel_split (fun q' => ?_) (fun q' => ?_)<;>(have h':=q')<;>(try simp only [za1,za2,Ba,Bb,za3,ne_eq,za4,za5,za6,Ia,Ib,Ic,Ie,Da,Bc,Bh,Be,za7,za8] at h')<;>try (exfalso; omega)) | (have q':=trivial; first | refine hE _ _ ret_ne ?_ | refine hE _ _ exit_ne ?_))<;>(try simp (disch:=first | omega | decide +kernel) only [q',e0,hn',Int.toNat_natCast,go_sem,Qa,Qb,Qc,Qd,Qe,↓reduceIte,reduceCtorEq,Qf,Qg,Qh])<;>clear q') | refine hN _ ?_ ?_ Wk.kk | with_reducible refine And.intro ?_ ?_ | with_reducible omega | exact ok_ints | exact cells_ints | exact no_mem | with_reducible exact plain_ints | (refine le_maxLen ?_; omega) | (refine za9 ⟨?_,?_⟩) | (simp only [go_sem,Qc,Qb,zb1,zb2,forall_eq]; done)))
       all_goals (first | omega | exact absurd trivial ‹¬True› | (refine hN (w++b) _ (by omega) (by rw [BL_app,hsu]) (by refine Wk.auto ?_ ?_<;>simp [extraK,lk,killL,St.kill,wipeO,wipeS,AV.has,AV.hasL,AO.wipe,List.map_set,updSt,insL,dropS,ins,])))
     . have hn98 : ¬ (d.toNat : Int)=98:=fun h => h98 (toN_eq.1 h)
       by_cases h99 : d=99
       . have hn' : (d.toNat : Int)=99:=by rw [h99]; rfl
         rw [subL,if_neg h97,if_neg h98,if_pos h99] at hsu
         simp (disch:=first | omega | decide +kernel) only [e0,hn',Int.toNat_natCast,go_sem,Qa,Qb,Qc,Qd,Qe,↓reduceIte,reduceCtorEq,Qf,Qg,Qh]
         (repeat' (first | ((first | (refine gsel_split (fun q' => ?_) (fun q' => ?_)<;>(have h':=q')<;>(try simp only [za1,za2,Ba,Bb,za3,ne_eq,za4,za5,za6,Ia,Ib,Ic,Ie,Da,Bc,Bh,Be,za7,za8] at h')<;>try (exfalso; omega)) | (have q':=trivial; first | refine hE _ _ ret_ne ?_ | refine hE _ _ exit_ne ?_))<;>(try simp (disch:=first | omega | decide +kernel) only [q',e0,hn',Int.toNat_natCast,go_sem,Qa,Qb,Qc,Qd,Qe,↓reduceIte,reduceCtorEq,Qf,Qg,Qh])<;>clear q') | refine hN _ ?_ ?_ Wk.kk | with_reducible refine And.intro ?_ ?_ | with_reducible omega | exact ok_ints | exact cells_ints | exact no_mem | with_reducible exact plain_ints | (refine le_maxLen ?_; omega) | (refine za9 ⟨?_,?_⟩) | (simp only [go_sem,Qc,Qb,zb1,zb2,forall_eq]; done)))
         all_goals (first | omega | exact absurd trivial ‹¬True› | (refine hN (w++c) _ (by omega) (by rw [BL_app,hsu]) (by refine Wk.auto ?_ ?_<;>simp [extraK,lk,killL,St.kill,wipeO,wipeS,AV.has,AV.hasL,AO.wipe,List.map_set,updSt,insL,dropS,ins,])))
       . have hn99 : ¬ (d.toNat : Int)=99:=fun h => h99 (toN_eq.1 h)
         rw [subL,if_neg h97,if_neg h98,if_neg h99] at hsu
         simp (disch:=first | omega | decide +kernel) only [e0,hn97,hn98,hn99,ei,ex,zd,Int.toNat_natCast,go_sem,Qa,Qb,Qc,Qd,Qe,↓reduceIte,reduceCtorEq,Qf,Qg,Qh]
         (repeat' (first | ((first | (refine gsel_split (fun q' => ?_) (fun q' => ?_)<;>(have h':=q')<;>(try simp only [za1,za2,Ba,Bb,za3,ne_eq,za4,za5,za6,Ia,Ib,Ic,Ie,Da,Bc,Bh,Be,za7,za8] at h')<;>try (exfalso; omega)) | (have q':=trivial; first | refine hE _ _ ret_ne ?_ | refine hE _ _ exit_ne ?_))<;>(try simp (disch:=first | omega | decide +kernel) only [q',e0,hn97,hn98,hn99,ei,ex,zd,Int.toNat_natCast,go_sem,Qa,Qb,Qc,Qd,Qe,↓reduceIte,reduceCtorEq,Qf,Qg,Qh])<;>clear q') | refine hN _ ?_ ?_ Wk.kk | with_reducible refine And.intro ?_ ?_ | with_reducible omega | exact ok_ints | exact cells_ints | exact no_mem | with_reducible exact plain_ints | (refine le_maxLen ?_; omega) | (refine za9 ⟨?_,?_⟩) | (simp only [go_sem,Qc,Qb,zb1,zb2,forall_eq]; done)))
         all_goals (first | omega | exact absurd trivial ‹¬True› | (refine hN (w++ByteArray.mk #[d]) _ (by omega) (by rw [BL_app,hsu]) (by refine Wk.auto ?_ ?_<;>simp [extraK,lk,killL,St.kill,wipeO,wipeS,AV.has,AV.hasL,AO.wipe,List.map_set,updSt,insL,dropS,ins,])))
 . have hfin : caseT j a b c=w:=by
    apply ext_BL
    rw [hw,List.take_of_length_le (by rw [← size_BL]; omega)]
    exact hcl
   simp (disch:=first | omega | decide +kernel) only [go_sem,Qa,Qb,Qc,Qd,Qe,↓reduceIte,reduceCtorEq,Qf,Qg,Qh]
   (repeat' (first | ((first | (refine gsel_split (fun q' => ?_) (fun q' => ?_)<;>(have h':=q')<;>(try simp only [za1,za2,Ba,Bb,za3,ne_eq,za4,za5,za6,Ia,Ib,Ic,Ie,Da,Bc,Bh,Be,za7,za8] at h')<;>try (exfalso; omega)) | (have q':=trivial; first | refine hE _ _ ret_ne ?_ | refine hE _ _ exit_ne ?_))<;>(try simp (disch:=first | omega | decide +kernel) only [q',go_sem,Qa,Qb,Qc,Qd,Qe,↓reduceIte,reduceCtorEq,Qf,Qg,Qh])<;>clear q') | refine hN _ ?_ ?_ Wk.kk | with_reducible refine And.intro ?_ ?_ | with_reducible omega | exact ok_ints | exact cells_ints | exact no_mem | with_reducible exact plain_ints | (refine le_maxLen ?_; omega) | (refine za9 ⟨?_,?_⟩) | (simp only [go_sem,Qc,Qb,zb1,zb2,forall_eq]; done)))
   all_goals (first | omega | (rw [hfin]; exact ⟨rfl,rfl⟩) | exact congrArg D.str hfin.symm | exact absurd trivial ‹¬True›)
end Abs.Y
