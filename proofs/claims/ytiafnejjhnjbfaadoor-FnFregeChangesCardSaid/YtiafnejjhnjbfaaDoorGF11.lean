/- What functions of this program compute, over plain data. No condition. -/
import Derived.Test.YtiafnejjhnjbfaaDoorGF10
set_option linter.all false
open Nat renaming reduceEqDiff -> Qa, reduceLT -> Qb, reduceAdd -> Qc, reduceMul -> Qd, reduceSub -> Qe, reduceLeDiff -> Qf, reduceSubDiff -> Qg, reduceBEq -> Qh
open Bool renaming not_eq_true' -> Ba, not_eq_false' -> Bb, and_eq_true -> Bc, or_eq_true -> Bh, or_eq_false_iff -> Be
open Int renaming ofNat_lt -> Ia, ofNat_le -> Ib, not_lt -> Ic, not_le -> Ie
open Decidable renaming not_not -> Da
namespace Abs
open Go Go.Proofs
theorem retR_d3 {P : Program} {t1 t2 t3 : Nat} {st : St} {u : Nat->Value} {x y z : D} {R : AV->List (Nat × AO)->Prop} (h1 : lk t1 st.s=some (.d x)) (h2 : lk t2 st.s=some (.d y)) (h3 : lk t3 st.s=some (.d z)) (hR : R (.tup [.d x,.d y,.d z]) []) : retR P [.tmp t1,.tmp t2,.tmp t3] u [] true R .ret st:=by
 refine ⟨_,_,hR,?_⟩
 simp only [retM,resV,h1,h2,h3]
 exact ⟨trivial,⟨fun q => q,rfl,by simp,by simp,trivial⟩,.inl trivial⟩
theorem retR_d4 {P : Program} {t1 t2 t3 t4 : Nat} {st : St} {u : Nat->Value} {x y z w : D} {R : AV->List (Nat × AO)->Prop} (h1 : lk t1 st.s=some (.d x)) (h2 : lk t2 st.s=some (.d y)) (h3 : lk t3 st.s=some (.d z)) (h4 : lk t4 st.s=some (.d w)) (hR : R (.tup [.d x,.d y,.d z,.d w]) []) : retR P [.tmp t1,.tmp t2,.tmp t3,.tmp t4] u [] true R .ret st:=by
 refine ⟨_,_,hR,?_⟩
 simp only [retM,resV,h1,h2,h3,h4]
 exact ⟨trivial,⟨fun q => q,rfl,by simp,by simp,trivial⟩,.inl trivial⟩
end Abs
namespace Abs.Y
open Go Go.Proofs Abs
set_option maxRecDepth 100000

theorem getD_szB {l : List ByteArray} {n : Nat} (h : ∀ g ∈ l,g.size<=n) (j : Nat) : (l.getD j nilB).size<=n:=by
 by_cases hj : j < l.length
 . exact h _ (getD_mem hj)
 . rw [List.getD_eq_getElem?_getD,List.getElem?_eq_none (by omega)]; exact Nat.zero_le _
theorem getD_szF {l : List Fs} {n : Nat} (h : ∀ x ∈ l,x.f.size<=n) (j : Nat) : (l.getD j Fs.z).f.size<=n:=by
 by_cases hj : j < l.length
 . exact h _ (getD_mem hj)
 . rw [List.getD_eq_getElem?_getD,List.getElem?_eq_none (by omega)]; exact Nat.zero_le _
theorem szF_of {gs : List ByteArray} {ss : List Fs} (h1 : gs.length<=8) (h2 : ∀ g ∈ gs,g.size<=100) (h3 : ss.length<=90) (h4 : ∀ x ∈ ss,x.f.size<=100) : SzF gs ss :=
 ⟨by omega,by omega,fun j => Nat.le_trans (getD_szB h2 j) (by omega),fun j => Nat.le_trans (getD_szF h4 j) (by omega)⟩
theorem some_or {gs : List ByteArray} {ss : List Fs} (h : Some24 gs ss) : 0 < ss.length∨okF gs ss=false:=by
 by_cases h1 : ∀ g ∈ gs,okS g=true
 . exact .inl (h h1)
 . refine .inr ?_
   rw [okF,Bool.eq_false_iff]
   intro h2
   simp only [Bc,List.all_eq_true] at h2
   exact h1 h2.2
set_option maxHeartbeats 8000000 in
theorem drawAddModus_ok {code : List Int} (hc : CodeOK code) : CtrR Tryd.prog 14 [.d (D.bytes code)] [] [] true fun r oo => oo=[]∧∃ x : List ByteArray × List Fs × List Fs,r=.tup [.d (.slice (x.1.map .str)),.d (.slice (x.2.1.map fsD)),.d (.slice (x.2.2.map fsD))]∧SzF x.1 x.2.1∧SzF x.1 x.2.2:=by
 have c1:=given24_ok hc
 have c2:=fun (gs : List ByteArray) h1 h2 => fregeD_ok hc gs h1 h2
 have c4:=one_ok hc 4 (by omega)
 refine CtrR.ofO (n:=53) (rs:=[.tmp 2,.tmp 3,.tmp 4]) Tryd.func14 rfl rfl Tryd.ntmps14 rfl rfl (by kernel_rfl) Tryd.checked.mixed ?_; intro u
 refine Ok.endsW ?_
 refine Ok.seq (Ok.go ?_)
 simp (disch:=first | omega | decide +kernel) only [curO,curB,D.bytes,go_sem,Qa,Qb,Qc,Qd,Qe,↓reduceIte,reduceCtorEq,Qf,Qg,Qh]
 refine Ok.seq (Ok.go ?_)
 simp (disch:=first | omega | decide +kernel) only [curO,curB,D.bytes,go_sem,Qa,Qb,Qc,Qd,Qe,↓reduceIte,reduceCtorEq,Qf,Qg,Qh]
 refine Ok.seq (Ok.go ?_)
 simp (disch:=first | omega | decide +kernel) only [curO,curB,D.bytes,go_sem,Qa,Qb,Qc,Qd,Qe,↓reduceIte,reduceCtorEq,Qf,Qg,Qh]
 (repeat' (first | ((first | (refine gsel_split (fun q' => ?_) (fun q' => ?_)<;>(have h':=q')<;>(try simp only [za1,za2,Ba,Bb,za3,ne_eq,za4,za5,za6,Ia,Ib,Ic,Ie,Da,Bc,Bh,Be,za7,za8] at h')<;>try (exfalso; omega)) | (have q':=trivial; first | (refine callX_draw (at_:=0) _ (c1) ⟨.inl rfl,trivial⟩ rfl (by simp [dstB]) (by omega) (by omega) (by omega) ?_; rintro _ ata sda hata1 hata2 hsda1 hsda2 ⟨xa,rfl,hxa⟩) | refine hE _ _ ret_ne ?_ | refine hE _ _ exit_ne ?_))<;>(try simp (disch:=first | omega | decide +kernel) only [q',curO,curB,D.bytes,go_sem,Qa,Qb,Qc,Qd,Qe,↓reduceIte,reduceCtorEq,Qf,Qg,Qh])<;>clear q') | refine hN _ ?_ ?_ Wk.kk | with_reducible refine And.intro ?_ ?_ | with_reducible omega | exact ok_ints | exact cells_ints | exact no_mem | with_reducible exact plain_ints | (refine le_maxLen ?_; omega) | (refine za9 ⟨?_,?_⟩) | (simp only [go_sem,Qc,Qb,zb1,zb2,forall_eq]; done)))
 refine Ok.seq (Ok.go ?_)
 simp (disch:=first | omega | decide +kernel) only [curO,curB,D.bytes,go_sem,Qa,Qb,Qc,Qd,Qe,↓reduceIte,reduceCtorEq,Qf,Qg,Qh]
 (repeat' (first | ((first | (refine gsel_split (fun q' => ?_) (fun q' => ?_)<;>(have h':=q')<;>(try simp only [za1,za2,Ba,Bb,za3,ne_eq,za4,za5,za6,Ia,Ib,Ic,Ie,Da,Bc,Bh,Be,za7,za8] at h')<;>try (exfalso; omega)) | (have q':=trivial; first | (refine callX_draw _ (c2 xa hxa.1 hxa.2) ⟨.inl rfl,.inl rfl,trivial⟩ rfl (by simp [dstB]) (by omega) (by omega) (by omega) ?_; rintro _ atb sdb hatb1 hatb2 hsdb1 hsdb2 ⟨xb,rfl,hxb⟩) | refine hE _ _ ret_ne ?_ | refine hE _ _ exit_ne ?_))<;>(try simp (disch:=first | omega | decide +kernel) only [q',curO,curB,D.bytes,go_sem,Qa,Qb,Qc,Qd,Qe,↓reduceIte,reduceCtorEq,Qf,Qg,Qh])<;>clear q') | refine hN _ ?_ ?_ Wk.kk | with_reducible refine And.intro ?_ ?_ | with_reducible omega | exact ok_ints | exact cells_ints | exact no_mem | with_reducible exact plain_ints | (refine le_maxLen ?_; omega) | (refine za9 ⟨?_,?_⟩) | (simp only [go_sem,Qc,Qb,zb1,zb2,forall_eq]; done)))
 have z1:=szF_of hxa.1 hxa.2 hxb.1 hxb.2.1
 have c3:=l24GoodF_ok xa xb z1
 clear c1
 cases hp : proofF xa xb with
 | false =>
   rw [hp] at c3
   refine Ok.seq (Ok.go ?_)
   simp (disch:=first | omega | decide +kernel) only [List.length_map,go_sem,Qa,Qb,Qc,Qd,Qe,↓reduceIte,reduceCtorEq,Qf,Qg,Qh]
   (repeat' (first | ((first | (refine gsel_split (fun q' => ?_) (fun q' => ?_)<;>(have h':=q')<;>(try simp only [za1,za2,Ba,Bb,za3,ne_eq,za4,za5,za6,Ia,Ib,Ic,Ie,Da,Bc,Bh,Be,za7,za8] at h')<;>try (exfalso; omega)) | (have q':=trivial; first | refine callX_new (c3) rfl (by decide) ?_ | refine callY_new (c3) rfl ?_ | refine hE _ _ ret_ne ?_ | refine hE _ _ exit_ne ?_))<;>(try simp (disch:=first | omega | decide +kernel) only [q',curO,curB,D.bytes,List.length_map,go_sem,Qa,Qb,Qc,Qd,Qe,↓reduceIte,reduceCtorEq,Qf,Qg,Qh])<;>clear q') | refine hN _ ?_ ?_ Wk.kk | with_reducible refine And.intro ?_ ?_ | with_reducible omega | exact ok_ints | exact cells_ints | exact no_mem | with_reducible exact plain_ints | (refine le_maxLen ?_; omega) | (refine za9 ⟨?_,?_⟩) | (simp only [go_sem,Qc,Qb,zb1,zb2,forall_eq]; done)))
   all_goals (
    refine Ok.go ?_
    simp (disch:=first | omega | decide +kernel) only [go_sem,Qa,Qb,Qc,Qd,Qe,↓reduceIte,reduceCtorEq,Qf,Qg,Qh]
    (repeat' (first | ((first | (refine gsel_split (fun q' => ?_) (fun q' => ?_)<;>(have h':=q')<;>(try simp only [za1,za2,Ba,Bb,za3,ne_eq,za4,za5,za6,Ia,Ib,Ic,Ie,Da,Bc,Bh,Be,za7,za8] at h')<;>try (exfalso; omega)) | (have q':=trivial; first | (refine callX_draw _ (c2 xa hxa.1 hxa.2) ⟨.inl rfl,.inl rfl,trivial⟩ rfl (by simp [dstB]) (by omega) (by omega) (by omega) ?_; rintro _ atd sdd hatd1 hatd2 hsdd1 hsdd2 ⟨xd,rfl,hxd⟩) | refine hE _ _ ret_ne ?_ | refine hE _ _ exit_ne ?_))<;>(try simp (disch:=first | omega | decide +kernel) only [q',curO,curB,D.bytes,go_sem,Qa,Qb,Qc,Qd,Qe,↓reduceIte,reduceCtorEq,Qf,Qg,Qh])<;>clear q') | refine hN _ ?_ ?_ Wk.kk | with_reducible refine And.intro ?_ ?_ | with_reducible omega | exact ok_ints | exact cells_ints | exact no_mem | with_reducible exact plain_ints | (refine le_maxLen ?_; omega) | (refine za9 ⟨?_,?_⟩) | (simp only [go_sem,Qc,Qb,zb1,zb2,forall_eq]; done)))
    refine endF [] ?_
    exact retR_d3 rfl rfl rfl ⟨rfl,(xa,xb,xd),rfl,z1,szF_of hxa.1 hxa.2 hxd.1 hxd.2.1⟩)
 | true =>
   rw [hp] at c3
   have q:=proof_spec hp
   have k1 : okS (lastF xb).f=true:=cor_ok (q.2.2.2.2 _ (by omega))
   have k80:=(okS_spec k1).2.2
   have hq:=q.2.2.2.1
   have c13 : Ctr Tryd.prog 41 [.int .i64 1,.str (lastF xb).f,.str ⟨#[98]⟩,.str ⟨#[98]⟩] false (.d (.str (caseT 0 (lastF xb).f ⟨#[98]⟩ ⟨#[98]⟩))) []:=l24Case_ok 0 (by omega) _ _ _ (by omega) (by decide) (by decide)
   have e1:=el_fs (xs:=xb) (i:=xb.length - 1) (by omega)
   rw [← lastF] at e1
   have en1 : (xb.length : Int) - 1=((xb.length - 1 : Nat) : Int):=by omega
   generalize caseT 0 (lastF xb).f ⟨#[98]⟩ ⟨#[98]⟩=y at *
   generalize lastF xb=lt at *
   refine Ok.seq (Ok.go ?_)
   simp (disch:=first | omega | decide +kernel) only [List.length_map,en1,e1,Int.toNat_natCast,go_sem,Qa,Qb,Qc,Qd,Qe,↓reduceIte,reduceCtorEq,Qf,Qg,Qh]
   (repeat' (first | ((first | (refine gsel_split (fun q' => ?_) (fun q' => ?_)<;>(have h':=q')<;>(try simp only [za1,za2,Ba,Bb,za3,ne_eq,za4,za5,za6,Ia,Ib,Ic,Ie,Da,Bc,Bh,Be,za7,za8] at h')<;>try (exfalso; omega)) | (have q':=trivial; first | refine callX_new (c3) rfl (by decide) ?_ | refine callY_new (c3) rfl ?_ | (refine callX_draw _ (c4) ⟨.inl rfl,.inl rfl,trivial⟩ rfl (by simp [dstB]) (by omega) (by omega) (by omega) ?_; rintro _ atc sdc hatc1 hatc2 hsdc1 hsdc2 ⟨xc,rfl,hxc⟩) | refine callX_new (c13) rfl (by decide) ?_ | refine callY_new (c13) rfl ?_ | refine hE _ _ ret_ne ?_ | refine hE _ _ exit_ne ?_))<;>(try simp (disch:=first | omega | decide +kernel) only [q',curO,curB,D.bytes,List.length_map,en1,e1,Int.toNat_natCast,go_sem,Qa,Qb,Qc,Qd,Qe,↓reduceIte,reduceCtorEq,Qf,Qg,Qh])<;>clear q') | refine hN _ ?_ ?_ Wk.kk | with_reducible refine And.intro ?_ ?_ | with_reducible omega | exact ok_ints | exact cells_ints | exact no_mem | with_reducible exact plain_ints | (refine le_maxLen ?_; omega) | (refine za9 ⟨?_,?_⟩) | (simp only [go_sem,Qc,Qb,zb1,zb2,forall_eq]; done)))
   . refine endF [47] ?_
     exact retR_d3 rfl rfl rfl ⟨rfl,(xa,xb,[⟨y,1,0,0⟩]),rfl,z1,szF_of hxa.1 hxa.2 (by simp) (fun x hx => by rw [List.mem_singleton] at hx; subst hx; dsimp only; omega)⟩
   all_goals (
    refine Ok.go ?_
    simp (disch:=first | omega | decide +kernel) only [go_sem,Qa,Qb,Qc,Qd,Qe,↓reduceIte,reduceCtorEq,Qf,Qg,Qh]
    (repeat' (first | ((first | (refine gsel_split (fun q' => ?_) (fun q' => ?_)<;>(have h':=q')<;>(try simp only [za1,za2,Ba,Bb,za3,ne_eq,za4,za5,za6,Ia,Ib,Ic,Ie,Da,Bc,Bh,Be,za7,za8] at h')<;>try (exfalso; omega)) | (have q':=trivial; first | (refine callX_draw _ (c2 xa hxa.1 hxa.2) ⟨.inl rfl,.inl rfl,trivial⟩ rfl (by simp [dstB]) (by omega) (by omega) (by omega) ?_; rintro _ atd sdd hatd1 hatd2 hsdd1 hsdd2 ⟨xd,rfl,hxd⟩) | refine hE _ _ ret_ne ?_ | refine hE _ _ exit_ne ?_))<;>(try simp (disch:=first | omega | decide +kernel) only [q',curO,curB,D.bytes,go_sem,Qa,Qb,Qc,Qd,Qe,↓reduceIte,reduceCtorEq,Qf,Qg,Qh])<;>clear q') | refine hN _ ?_ ?_ Wk.kk | with_reducible refine And.intro ?_ ?_ | with_reducible omega | exact ok_ints | exact cells_ints | exact no_mem | with_reducible exact plain_ints | (refine le_maxLen ?_; omega) | (refine za9 ⟨?_,?_⟩) | (simp only [go_sem,Qc,Qb,zb1,zb2,forall_eq]; done)))
    refine endF [] ?_
    exact retR_d3 rfl rfl rfl ⟨rfl,(xa,xb,xd),rfl,z1,szF_of hxa.1 hxa.2 hxd.1 hxd.2.1⟩)
set_option maxHeartbeats 8000000 in
theorem drawPutInFrege_ok {code : List Int} (hc : CodeOK code) : CtrR Tryd.prog 19 [.d (D.bytes code)] [] [] true fun r oo => oo=[]∧∃ x : List ByteArray × List Fs × ByteArray × ByteArray,r=.tup [.d (.slice (x.1.map .str)),.d (.slice (x.2.1.map fsD)),.d (.str x.2.2.1),.d (.str x.2.2.2)]∧SzF x.1 x.2.1∧(0 < x.2.1.length∨okF x.1 x.2.1=false)∧x.2.2.1.size<=1∧x.2.2.2.size<=5:=by
 have c1:=given24_ok hc
 have c2:=fun (gs : List ByteArray) h1 h2 => fregeD_ok hc gs h1 h2
 have c3:=ofL_ok hc [⟨#[97]⟩,⟨#[98]⟩,⟨#[97]⟩,⟨#[99]⟩,⟨#[]⟩,⟨#[103]⟩] 1 (by decide) (by decide)
 have c4:=short24_ok hc
 simp only [List.map_cons,List.map_nil] at c3
 refine CtrR.of (n:=22) (rs:=[.tmp 2,.tmp 3,.tmp 4,.tmp 5]) Tryd.func19 rfl rfl Tryd.ntmps19 rfl rfl (by kernel_rfl) Tryd.checked.mixed ?_; intro u
 simp (disch:=first | omega | decide +kernel) only [curO,curB,D.bytes,go_sem,Qa,Qb,Qc,Qd,Qe,↓reduceIte,reduceCtorEq,Qf,Qg,Qh]
 (repeat' (first | ((first | (refine gsel_split (fun q' => ?_) (fun q' => ?_)<;>(have h':=q')<;>(try simp only [za1,za2,Ba,Bb,za3,ne_eq,za4,za5,za6,Ia,Ib,Ic,Ie,Da,Bc,Bh,Be,za7,za8] at h')<;>try (exfalso; omega)) | (have q':=trivial; first | (refine callX_draw (at_:=0) _ (c1) ⟨.inl rfl,trivial⟩ rfl (by simp [dstB]) (by omega) (by omega) (by omega) ?_; rintro _ ata sda hata1 hata2 hsda1 hsda2 ⟨xa,rfl,hxa⟩) | (refine callX_draw _ (c2 xa hxa.1 hxa.2) ⟨.inl rfl,.inl rfl,trivial⟩ rfl (by simp [dstB]) (by omega) (by omega) (by omega) ?_; rintro _ atb sdb hatb1 hatb2 hsdb1 hsdb2 ⟨xb,rfl,hxb⟩) | (refine callX_drawL _ _ (c3) ⟨.inl rfl,.inl rfl,trivial⟩ rfl rfl (by decide) (by simp [dstB]) (by omega) (by omega) (by omega) ?_; rintro _ at1 sd1 hat1 hat2 hsd1 hsd2 ⟨x1,rfl,hx1⟩) | (refine callX_draw _ (c4) ⟨.inl rfl,trivial⟩ rfl (by simp [dstB]) (by omega) (by omega) (by omega) ?_; rintro _ atd sdd hatd1 hatd2 hsdd1 hsdd2 ⟨xd,rfl,hxd⟩) | refine hE _ _ ret_ne ?_ | refine hE _ _ exit_ne ?_))<;>(try simp (disch:=first | omega | decide +kernel) only [q',curO,curB,D.bytes,go_sem,Qa,Qb,Qc,Qd,Qe,↓reduceIte,reduceCtorEq,Qf,Qg,Qh])<;>clear q') | refine hN _ ?_ ?_ Wk.kk | with_reducible refine And.intro ?_ ?_ | with_reducible omega | exact ok_ints | exact cells_ints | exact no_mem | with_reducible exact plain_ints | (refine le_maxLen ?_; omega) | (refine za9 ⟨?_,?_⟩) | (simp only [go_sem,Qc,Qb,zb1,zb2,forall_eq]; done)))
 all_goals (first | exact retR_d4 rfl rfl rfl rfl ⟨rfl,(xa,xb,x1,xd),rfl,szF_of hxa.1 hxa.2 hxb.1 hxb.2.1,some_or hxb.2.2,hx1,hxd⟩)
end Abs.Y
