/- What functions of this program compute, over plain data. No condition. -/
import Derived.Test.YtiafnejjhnjbfaaGreatWN1
import Derived.Test.YtiafnejjhnjbfaaGreatCX
set_option linter.all false
namespace Abs.Y
open Go Go.Proofs Abs
open Nat renaming reduceEqDiff -> Qa, reduceLT -> Qb, reduceAdd -> Qc, reduceMul -> Qd, reduceSub -> Qe, reduceLeDiff -> Qf, reduceSubDiff -> Qg, reduceBEq -> Qh
open Bool renaming not_eq_true' -> Ba, not_eq_false' -> Bb, and_eq_true -> Bc, or_eq_true -> Bh, or_eq_false_iff -> Be
open Int renaming ofNat_lt -> Ia, ofNat_le -> Ib, not_lt -> Ic, not_le -> Ie
open Decidable renaming not_not -> Da
set_option maxRecDepth 100000

theorem rBigN_ok (code : List Int) : Ctr Tryz.prog 4 [D.bytes code] false (.d (.bool (decide (65536 < code.length)))) []:=by
 refine Ctr.of (n:=6) (rs:=[.tmp 2]) Tryz.func4 rfl rfl Tryz.ntmps4 rfl rfl (by kernel_rfl) Tryz.checked.mixed ?_
 simp (disch:=first | omega | decide +kernel) only [D.bytes,go_sem,Qa,Qb,Qc,Qd,Qe,↓reduceIte,reduceCtorEq,Qf,Qg,Qh]
 (repeat' (first | ((first | (refine gsel_split (fun q' => ?_) (fun q' => ?_)<;>(have h':=q')<;>(try simp only [za1,za2,Ba,Bb,za3,ne_eq,za4,za5,za6,Ia,Ib,Ic,Ie,Da,Bc,Bh,Be,za7,za8] at h')) | (have q':=trivial; first | refine hE _ _ ret_ne ?_ | refine hE _ _ exit_ne ?_))<;>(try simp (disch:=first | omega | decide +kernel) only [q',D.bytes,go_sem,Qa,Qb,Qc,Qd,Qe,↓reduceIte,reduceCtorEq,Qf,Qg,Qh])<;>clear q') | refine hN _ ?_ ?_ Wk.kk | with_reducible refine And.intro ?_ ?_ | with_reducible omega | exact ok_ints | exact cells_ints | exact no_mem | with_reducible exact plain_ints | (refine le_maxLen ?_; omega) | (refine za9 ⟨?_,?_⟩) | (simp only [go_sem,Qc,Qb,zb1,zb2,forall_eq]; done)))
 congr 1
 exact decide_eq_decide.2 (by omega)
theorem NegationFormS_ok (s : ByteArray) (hs : s.size<=1000000) : Ctr Tryz.prog 7 [.str s] true (.tup [.d (.str (negS s)),.d (.bool (negG s))]) []:=by
 have c1:=l22Good_ok s hs
 cases hok : okS s with
 | false =>
   rw [hok] at c1
   have hg : negG s=false:=by rw [negG,hok]; rfl
   rw [negS,hg,if_neg (by simp)]
   refine Ctr.of (n:=12) (rs:=[.tmp 2,.tmp 3]) Tryz.func7 rfl rfl Tryz.ntmps7 rfl rfl (by kernel_rfl) Tryz.checked.mixed ?_
   simp (disch:=first | omega | decide +kernel) only [go_sem,Qa,Qb,Qc,Qd,Qe,↓reduceIte,reduceCtorEq,Qf,Qg,Qh]
   (repeat' (first | ((first | (refine gsel_split (fun q' => ?_) (fun q' => ?_)<;>(have h':=q')<;>(try simp only [za1,za2,Ba,Bb,za3,ne_eq,za4,za5,za6,Ia,Ib,Ic,Ie,Da,Bc,Bh,Be,za7,za8] at h')<;>try (exfalso; omega)) | (have q':=trivial; first | refine callX_new (c1) rfl (by decide) ?_ | refine callY_new (c1) rfl ?_ | refine hE _ _ ret_ne ?_ | refine hE _ _ exit_ne ?_))<;>(try simp (disch:=first | omega | decide +kernel) only [q',go_sem,Qa,Qb,Qc,Qd,Qe,↓reduceIte,reduceCtorEq,Qf,Qg,Qh])<;>clear q') | refine hN _ ?_ ?_ Wk.kk | with_reducible refine And.intro ?_ ?_ | with_reducible omega | exact ok_ints | exact cells_ints | exact no_mem | with_reducible exact plain_ints | (refine le_maxLen ?_; omega) | (refine za9 ⟨?_,?_⟩) | (simp only [go_sem,Qc,Qb,zb1,zb2,forall_eq]; done)))
   all_goals (first | omega | assumption | rfl | exact absurd trivial ‹¬True› | exact ret_s2 [] rfl rfl)
 | true =>
   rw [hok] at c1
   obtain ⟨nw,nz,_⟩:=negF_ok hok
   have c3:=l22Signed_ok (fmS s) true (okS_spec hok).1 (by have:=(okS_spec hok).2; rw [← this.1]; omega)
   rw [← (okS_spec hok).2.1] at c3
   have c3 : Ctr Tryz.prog 26 [.str s,.bool true] true (.d (.str (negF s).T)) []:=c3
   have c4:=l22Give_ok (negF s).T (by omega)
   have hgo : okS (negF s).T=negG s:=by
    have hp : prs (BL (negF s).T)=some (negF s,[]):=prs_T nw
    rw [negG,hok,okS,hp]; simp
   rw [giveS,hgo] at c4
   rw [negS]
   generalize (negF s).T=form at *
   generalize (if negG s=true then form else ⟨#[]⟩)=out at *
   generalize negG s=g at *
   refine Ctr.of (n:=12) (rs:=[.tmp 2,.tmp 3]) Tryz.func7 rfl rfl Tryz.ntmps7 rfl rfl (by kernel_rfl) Tryz.checked.mixed ?_
   simp (disch:=first | omega | decide +kernel) only [go_sem,Qa,Qb,Qc,Qd,Qe,↓reduceIte,reduceCtorEq,Qf,Qg,Qh]
   (repeat' (first | ((first | (refine gsel_split (fun q' => ?_) (fun q' => ?_)<;>(have h':=q')<;>(try simp only [za1,za2,Ba,Bb,za3,ne_eq,za4,za5,za6,Ia,Ib,Ic,Ie,Da,Bc,Bh,Be,za7,za8] at h')<;>try (exfalso; omega)) | (have q':=trivial; first | refine callX_new (c1) rfl (by decide) ?_ | refine callY_new (c1) rfl ?_ | refine callX_shared (c3) rfl (by decide) ?_ | refine callY_shared (c3) rfl ?_ | refine callX_shared (c4) rfl (by decide) ?_ | refine callY_shared (c4) rfl ?_ | refine hE _ _ ret_ne ?_ | refine hE _ _ exit_ne ?_))<;>(try simp (disch:=first | omega | decide +kernel) only [q',go_sem,Qa,Qb,Qc,Qd,Qe,↓reduceIte,reduceCtorEq,Qf,Qg,Qh])<;>clear q') | refine hN _ ?_ ?_ Wk.kk | with_reducible refine And.intro ?_ ?_ | with_reducible omega | exact ok_ints | exact cells_ints | exact no_mem | with_reducible exact plain_ints | (refine le_maxLen ?_; omega) | (refine za9 ⟨?_,?_⟩) | (simp only [go_sem,Qc,Qb,zb1,zb2,forall_eq]; done)))
   all_goals (first | omega | assumption | rfl | exact absurd trivial ‹¬True› | exact ret_s2 [] rfl rfl)
set_option maxHeartbeats 4000000 in
theorem drawIsFormula_ok {code : List Int} (hc : CodeOK code) : CtrR Tryz.prog 20 [.d (D.bytes code)] [] [] true fun r oo => oo=[]∧∃ s : ByteArray,r=.d (.str s)∧s.size<=100:=by
 have c1:=formulaText_ok hc
 refine CtrR.of (n:=9) (rs:=[.tmp 2]) Tryz.func20 rfl rfl Tryz.ntmps20 rfl rfl (by kernel_rfl) Tryz.checked.mixed ?_; intro u
 simp (disch:=first | omega | decide +kernel) only [curO,curB,D.bytes,go_sem,Qa,Qb,Qc,Qd,Qe,↓reduceIte,reduceCtorEq,Qf,Qg,Qh]
 (repeat' (first | ((first | (refine gsel_split (fun q' => ?_) (fun q' => ?_)<;>(have h':=q')<;>(try simp only [za1,za2,Ba,Bb,za3,ne_eq,za4,za5,za6,Ia,Ib,Ic,Ie,Da,Bc,Bh,Be,za7,za8] at h')<;>try (exfalso; omega)) | (have q':=trivial; first | (refine callX_draw (at_:=0) _ (c1) ⟨.inl rfl,trivial⟩ rfl (by simp [dstB]) (by omega) (by omega) (by omega) ?_; rintro _ ata sda hata1 hata2 hsda1 hsda2 ⟨xa,rfl,hxa⟩) | refine hE _ _ ret_ne ?_ | refine hE _ _ exit_ne ?_))<;>(try simp (disch:=first | omega | decide +kernel) only [q',curO,curB,D.bytes,go_sem,Qa,Qb,Qc,Qd,Qe,↓reduceIte,reduceCtorEq,Qf,Qg,Qh])<;>clear q') | refine hN _ ?_ ?_ Wk.kk | with_reducible refine And.intro ?_ ?_ | with_reducible omega | exact ok_ints | exact cells_ints | exact no_mem | with_reducible exact plain_ints | (refine le_maxLen ?_; omega) | (refine za9 ⟨?_,?_⟩) | (simp only [go_sem,Qc,Qb,zb1,zb2,forall_eq]; done)))
 all_goals (first | exact ⟨_,_,⟨rfl,_,rfl,by omega⟩,retM_v rfl⟩)
set_option maxHeartbeats 4000000 in
theorem drawNegationForm_ok {code : List Int} (hc : CodeOK code) : CtrR Tryz.prog 5 [.d (D.bytes code)] [] [] true fun r oo => oo=[]∧∃ s : ByteArray,r=.d (.str s)∧s.size<=100:=by
 have c1:=drawIsFormula_ok hc
 simp only [D.bytes] at c1
 refine CtrR.of (n:=5) (rs:=[.tmp 2]) Tryz.func5 rfl rfl Tryz.ntmps5 rfl rfl (by kernel_rfl) Tryz.checked.mixed ?_; intro u
 simp (disch:=first | omega | decide +kernel) only [D.bytes,go_sem,Qa,Qb,Qc,Qd,Qe,↓reduceIte,reduceCtorEq,Qf,Qg,Qh]
 (repeat' (first | ((first | (refine gsel_split (fun q' => ?_) (fun q' => ?_)<;>(have h':=q')<;>(try simp only [za1,za2,Ba,Bb,za3,ne_eq,za4,za5,za6,Ia,Ib,Ic,Ie,Da,Bc,Bh,Be,za7,za8] at h')<;>try (exfalso; omega)) | (have q':=trivial; first | (refine callX_rels (c1) ⟨.inl rfl,trivial⟩ (by simp [dstB]) ?_; rintro _ ⟨xa,rfl,hxa⟩) | (refine callX_rels (c1) ⟨.inr ⟨rfl,_,rfl,rfl⟩,trivial⟩ (by simp [dstB]) ?_; rintro _ ⟨xa,rfl,hxa⟩) | refine hE _ _ ret_ne ?_ | refine hE _ _ exit_ne ?_))<;>(try simp (disch:=first | omega | decide +kernel) only [q',D.bytes,go_sem,Qa,Qb,Qc,Qd,Qe,↓reduceIte,reduceCtorEq,Qf,Qg,Qh])<;>clear q') | refine hN _ ?_ ?_ Wk.kk | with_reducible refine And.intro ?_ ?_ | with_reducible omega | exact ok_ints | exact cells_ints | exact no_mem | with_reducible exact plain_ints | (refine le_maxLen ?_; omega) | (refine za9 ⟨?_,?_⟩) | (simp only [go_sem,Qc,Qb,zb1,zb2,forall_eq]; done)))
 all_goals (first | exact ⟨_,_,⟨rfl,_,rfl,by omega⟩,retM_v rfl⟩)
theorem sgT_ok (s : ByteArray) (hk : okS s=true) : Ctr Tryz.prog 26 [.str s,.bool true] true (.d (.str (negF s).T)) []:=by
 have c3:=l22Signed_ok (fmS s) true (okS_spec hk).1 (by have:=(okS_spec hk).2; rw [← this.1]; omega)
 rw [← (okS_spec hk).2.1] at c3
 exact c3
set_option maxHeartbeats 4000000 in
theorem drawAreEquivalent_ok {code : List Int} (hc : CodeOK code) : CtrR Tryz.prog 11 [.d (D.bytes code)] [] [] true fun r oo => oo=[]∧∃ x : ByteArray × ByteArray,r=.tup [.d (.str x.1),.d (.str x.2)]∧x.1.size<=200∧x.2.size<=200:=by
 have c1:=formulaText_ok hc
 have c2:=one_ok hc 2 (by omega)
 have c3:=fun (t : ByteArray) (h : t.size<=81) => l22Good_ok t (by omega)
 refine CtrR.of (n:=25) (rs:=[.tmp 2,.tmp 3]) Tryz.func11 rfl rfl Tryz.ntmps11 rfl rfl (by kernel_rfl) Tryz.checked.mixed ?_; intro u
 simp (disch:=first | omega | decide +kernel) only [curO,curB,D.bytes,go_sem,Qa,Qb,Qc,Qd,Qe,↓reduceIte,reduceCtorEq,Qf,Qg,Qh]
 (repeat' (first | ((first | (refine gsel_split (fun q' => ?_) (fun q' => ?_)<;>(have h':=q')<;>(try simp only [za1,za2,Ba,Bb,za3,ne_eq,za4,za5,za6,Ia,Ib,Ic,Ie,Da,Bc,Bh,Be,za7,za8] at h')<;>try (exfalso; omega)) | (have q':=trivial; first | (refine callX_draw (at_:=0) _ (c1) ⟨.inl rfl,trivial⟩ rfl (by simp [dstB]) (by omega) (by omega) (by omega) ?_; rintro _ ata sda hata1 hata2 hsda1 hsda2 ⟨xa,rfl,hxa⟩) | (refine callX_draw _ (c1) ⟨.inl rfl,trivial⟩ rfl (by simp [dstB]) (by omega) (by omega) (by omega) ?_; rintro _ atb sdb hatb1 hatb2 hsdb1 hsdb2 ⟨xb,rfl,hxb⟩) | refine callX_new (c3 xa (by omega)) rfl (by decide) ?_ | refine callY_new (c3 xa (by omega)) rfl ?_ | (refine callX_draw _ (c2) ⟨.inl rfl,.inl rfl,trivial⟩ rfl (by simp [dstB]) (by omega) (by omega) (by omega) ?_; rintro _ atc sdc hatc1 hatc2 hsdc1 hsdc2 ⟨xc,rfl,hxc⟩) | refine callX_shared (sgT_ok xa (by assumption)) rfl (by decide) ?_ | refine callY_shared (sgT_ok xa (by assumption)) rfl ?_ | refine hE _ _ ret_ne ?_ | refine hE _ _ exit_ne ?_))<;>(try simp (disch:=first | omega | decide +kernel) only [q',curO,curB,D.bytes,go_sem,Qa,Qb,Qc,Qd,Qe,↓reduceIte,reduceCtorEq,Qf,Qg,Qh])<;>clear q') | refine hN _ ?_ ?_ Wk.kk | with_reducible refine And.intro ?_ ?_ | with_reducible omega | exact ok_ints | exact cells_ints | exact no_mem | with_reducible exact plain_ints | (refine le_maxLen ?_; omega) | (refine za9 ⟨?_,?_⟩) | (simp only [go_sem,Qc,Qb,zb1,zb2,forall_eq]; done)))
 all_goals (first | exact ⟨_,_,⟨rfl,(_,_),rfl,by dsimp only; omega,by dsimp only; omega⟩,retM_vv rfl rfl⟩ | (have h9:=(negF_ok ‹okS xa=true›).2.1; exact ⟨_,_,⟨rfl,(xa,(negF xa).T),rfl,by dsimp only; omega,by dsimp only; omega⟩,retM_vv rfl rfl⟩))
set_option maxHeartbeats 4000000 in
theorem drawIsTautology_ok {code : List Int} (hc : CodeOK code) : CtrR Tryz.prog 16 [.d (D.bytes code)] [] [] true fun r oo => oo=[]∧∃ s : ByteArray,r=.d (.str s)∧s.size<=200:=by
 have c1:=formulaText_ok hc
 have c2:=one_ok hc 3 (by omega)
 have z0 : ∀ a : UInt8,(ByteArray.mk #[a]).size=1:=fun _ => rfl
 have z1 : ∀ a b : UInt8,(ByteArray.mk #[a,b]).size=2:=fun _ _ => rfl
 have c3:=fun (t : ByteArray) (ht : t.size < 30) => ofL_ok hc [ByteArray.mk #[40]++t++ByteArray.mk #[62]++t++ByteArray.mk #[41],ByteArray.mk #[40]++t++ByteArray.mk #[124,126]++t++ByteArray.mk #[41],ByteArray.mk #[126,40]++t++ByteArray.mk #[38,126]++t++ByteArray.mk #[41]] 100 (by simp) (by
  intro s hs
  simp only [List.mem_cons,List.not_mem_nil,or_false] at hs
  rcases hs with rfl | rfl | rfl<;>simp only [ByteArray.size_append,z0,z1]<;>omega)
 simp only [List.map_cons,List.map_nil] at c3
 refine CtrR.of (n:=44) (rs:=[.tmp 2]) Tryz.func16 rfl rfl Tryz.ntmps16 rfl rfl (by kernel_rfl) Tryz.checked.mixed ?_; intro u
 simp (disch:=first | omega | decide +kernel) only [curO,curB,D.bytes,go_sem,Qa,Qb,Qc,Qd,Qe,↓reduceIte,reduceCtorEq,Qf,Qg,Qh]
 (repeat' (first | ((first | (refine gsel_split (fun q' => ?_) (fun q' => ?_)<;>(have h':=q')<;>(try simp only [za1,za2,Ba,Bb,za3,ne_eq,za4,za5,za6,Ia,Ib,Ic,Ie,Da,Bc,Bh,Be,za7,za8] at h')<;>try (exfalso; omega)) | (have q':=trivial; first | (refine callX_draw (at_:=0) _ (c1) ⟨.inl rfl,trivial⟩ rfl (by simp [dstB]) (by omega) (by omega) (by omega) ?_; rintro _ ata sda hata1 hata2 hsda1 hsda2 ⟨xa,rfl,hxa⟩) | (refine callX_draw _ (c2) ⟨.inl rfl,.inl rfl,trivial⟩ rfl (by simp [dstB]) (by omega) (by omega) (by omega) ?_; rintro _ atb sdb hatb1 hatb2 hsdb1 hsdb2 ⟨xb,rfl,hxb⟩) | (refine callX_drawL _ _ (c3 xa (by omega)) ⟨.inl rfl,.inl rfl,trivial⟩ rfl rfl (by decide) (by simp [dstB]) (by omega) (by omega) (by omega) ?_; rintro _ at1 sd1 hat1 hat2 hsd1 hsd2 ⟨x1,rfl,hx1⟩) | refine hE _ _ ret_ne ?_ | refine hE _ _ exit_ne ?_))<;>(try simp (disch:=first | omega | decide +kernel) only [q',curO,curB,D.bytes,ByteArray.size_append,z0,z1,go_sem,Qa,Qb,Qc,Qd,Qe,↓reduceIte,reduceCtorEq,Qf,Qg,Qh])<;>clear q') | refine hN _ ?_ ?_ Wk.kk | with_reducible refine And.intro ?_ ?_ | with_reducible omega | exact ok_ints | exact cells_ints | exact no_mem | with_reducible exact plain_ints | (refine le_maxLen ?_; omega) | (refine za9 ⟨?_,?_⟩) | (simp only [go_sem,Qc,Qb,zb1,zb2,forall_eq]; done)))
 all_goals (first | exact ⟨_,_,⟨rfl,_,rfl,by omega⟩,retM_v rfl⟩)
theorem neg_law {s : ByteArray} (h : negG s=true) : okS s=true∧okS (negS s)=true∧(negS s).size<=80∧eqvV s (negS s)=true∧cmG s (negS s)=true∧negS (negS s)=negS s∧negG (negS s)=true∧(62 : UInt8) ∉ BL (negS s) ∧
 okS ⟨((BL (negS s)).map swp).toArray⟩=true∧(ByteArray.mk ((BL (negS s)).map swp).toArray).size<=80∧∀ m,m < 64->vS ⟨((BL (negS s)).map swp).toArray⟩ (63 - m)=!vS (negS s) m:=by
 have h':=h
 rw [negG,Bc,decide_eq_true_eq] at h'
 obtain ⟨hok,hz⟩:=h'
 obtain ⟨nw,_,nv⟩:=negF_ok hok
 have n2 : (negF s).n2=true:=sg_n2 _ _ (okS_spec hok).1
 have hS : negS s=(negF s).T:=by rw [negS,if_pos h]
 have hk2 : okS (negF s).T=true:=okS_T nw hz
 have hf2 : fmS (negF s).T=negF s:=fmS_T nw
 have hF : negF (negF s).T=negF s:=by rw [negF,hf2,sg_self _ n2]
 have hG2 : negG (negF s).T=true:=by rw [negG,hk2,hF,decide_eq_true hz]; rfl
 have hcm : cmG s (negF s).T=true:=by rw [cmG,hok,hk2]; rfl
 have hT : (⟨((negF s).T.data.toList.map swp).toArray⟩ : ByteArray)=(negF s).du.T:=ext_BL (du_tl _ nw n2).symm
 have hdw:=du_wf _ nw n2
 have hdz : (negF s).du.T.size<=80:=by
  rw [← hT,size_BL]
  show ((negF s).T.data.toList.map swp).length<=80
  rw [List.length_map]; exact hz
 rw [hS]
 refine ⟨hok,hk2,hz,?_,hcm,by rw [negS,hG2,if_pos rfl,hF],hG2,no62 _ nw n2,by rw [hT]; exact okS_T hdw hdz,by rw [hT]; exact hdz,fun m hm => ?_⟩
 . rw [eqvV,hcm,Bool.true_and,Bc,impB_iff,impB_iff]
   refine ⟨fun m _ hv => ?_,fun m _ hv => ?_⟩
   . rw [vS,hf2,nv]; exact hv
   . rw [vS,hf2,nv] at hv; exact hv
 . rw [vS,vS,hT,fmS_T hdw,hf2]
   refine du_vl (fun c hc => ?_) _ nw n2
   have h3:=of_decide_eq_true hc
   rw [UInt8.le_iff_toNat_le,UInt8.le_iff_toNat_le] at h3
   have e1 : (97 : UInt8).toNat=97:=rfl
   have e2 : (102 : UInt8).toNat=102:=rfl
   exact bit_opp m hm _ (by omega)
theorem cntV_mono {u v : Nat->Bool} : ∀ n : Nat,(∀ m,m < n->u m=true->v m=true)->cntV u n<=cntV v n
 | 0,_ => Nat.le_refl _
 | n + 1, h => by
   rw [cntV_succ,cntV_succ]
   have h1:=cntV_mono n fun m hm => h m (by omega)
   have h2:=h n (by omega)
   cases hu : u n with
   | false => simp; omega
   | true => rw [h2 hu]; simp; omega
theorem eqv_law {s t : ByteArray} (h : cmG s t=true) : okS s=true∧okS t=true∧cmG t s=true∧eqvV s t=(impV s t && impV t s)∧(impV s t=true->cntS s<=cntS t)∧(impV t s=true->cntS t<=cntS s):=by
 have h':=h
 rw [cmG,Bc] at h'
 obtain ⟨k1,k2⟩:=h'
 have h2 : cmG t s=true:=by rw [cmG,k1,k2]; rfl
 refine ⟨k1,k2,h2,by rw [eqvV,impV,impV,h,h2]; simp,fun hi => ?_,fun hi => ?_⟩
 . rw [impV,h,Bool.true_and,impB_iff] at hi
   rw [cntS,cntS,if_pos k1,if_pos k2]
   exact Ib.2 (cntV_mono 64 hi)
 . rw [impV,h2,Bool.true_and,impB_iff] at hi
   rw [cntS,cntS,if_pos k1,if_pos k2]
   exact Ib.2 (cntV_mono 64 hi)
end Abs.Y
