/- What functions of this program compute, over plain data. No condition. -/
import Derived.Test.YtkccabajcdphkaaDoorAbsTagR
import Derived.Test.YtkccabajcdphkaaDoorFS3
import Derived.Test.YtkccabajcdphkaaDoorAbsAny7
set_option linter.all false
open Nat renaming reduceEqDiff -> Qa, reduceLT -> Qb, reduceAdd -> Qc, reduceMul -> Qd, reduceSub -> Qe, reduceLeDiff -> Qf, reduceSubDiff -> Qg, reduceBEq -> Qh
open Bool renaming not_eq_true' -> Ba, not_eq_false' -> Bb, and_eq_true -> Bc, or_eq_true -> Bh, or_eq_false_iff -> Be
open Int renaming ofNat_lt -> Ia, ofNat_le -> Ib, not_lt -> Ic, not_le -> Ie
open Decidable renaming not_not -> Da
namespace Abs
open Go Go.RowKit
theorem Ok.seqJ {P : Program} {N : Nat} {x y : Code} {Q : Exit->St->Prop} {st : St} (Sc : St) (h1 : Ok P N y Q Sc) (h2 : Ok P N x (fun e s => (e=.normal∧Wk N s Sc)∨(e ≠ .normal∧Q e s)) st) : Ok P N (.seq x y) Q st :=
 Ok.seq (h2.mono fun e s h => by
  cases e with
  | normal =>
    rcases h with ⟨_,h⟩ | ⟨h,_⟩
    . exact Ok.weak h h1
    . exact absurd rfl h
  | _ =>
    rcases h with ⟨h,_⟩ | ⟨_,h⟩
    . cases h
    . exact h)
theorem retM_v {P : Program} {t1 : Nat} {st : St} {u : Nat->Value} {x : D} (h1 : lk t1 st.s=some (.d x)) : retM P [.tmp t1] u [] true (.d x) [] .ret st:=by
 simp only [retM,resV,h1]
 exact ⟨trivial,⟨fun q => q,rfl,by simp,by simp,trivial⟩,.inl trivial⟩
end Abs

namespace Abs
open Go Go.Proofs
theorem retM_v4 {P : Program} {t1 t2 t3 t4 : Nat} {st : St} {u : Nat->Value} {x y z w : D} (h1 : lk t1 st.s=some (.d x)) (h2 : lk t2 st.s=some (.d y)) (h3 : lk t3 st.s=some (.d z)) (h4 : lk t4 st.s=some (.d w)) : retM P [.tmp t1,.tmp t2,.tmp t3,.tmp t4] u [] true (.tup [.d x,.d y,.d z,.d w]) [] .ret st:=by
 simp only [retM,resV,h1,h2,h3,h4]
 exact ⟨trivial,⟨fun q => q,rfl,by simp,by simp,trivial⟩,.inl trivial⟩
end Abs
namespace Abs.Y
open Go Go.Proofs Abs
set_option maxRecDepth 100000
set_option maxHeartbeats 4000000

theorem formulaText_ok {code : List Int} (hc : CodeOK code) : Draws 93 [] 140 (QT 81) code:=fun at_ seed h1 h2 h3 => by
 have c1:=formula_ok hc
 have c2:=pick_ok hc 16 (by omega)
 have c3:=pick_ok hc 4 (by omega)
 have c4:=ofL_ok hc [⟨#[]⟩,⟨#[103]⟩,⟨#[40,97,38,98]⟩,⟨#[97,38,98]⟩,⟨#[40,41]⟩,⟨#[126]⟩,⟨#[65]⟩] 4 (by decide) (by decide)
 simp only [List.map_cons,List.map_nil] at c4
 have c5:=fun (t : ByteArray) (ht : t.size<=29) => spoilt_ok hc t ⟨#[97,98,48,49,126,40,38,124,62,41]⟩ (by omega) (by decide)
 have z1 : (ByteArray.mk #[126]).size=1:=rfl
 refine CtrR.of (n:=31) (rs:=[.tmp 2]) Tryd.func93 rfl rfl Tryd.ntmps93 rfl rfl (by kernel_rfl) Tryd.checked.mixed ?_; intro u
 simp (disch:=first | omega | decide +kernel) only [curO,curB,D.bytes,go_sem,Qa,Qb,Qc,Qd,Qe,↓reduceIte,reduceCtorEq,Qf,Qg,Qh]
 (repeat' (first | ((first | (refine gsel_split (fun q' => ?_) (fun q' => ?_)<;>(have h':=q')<;>(try simp only [za1,za2,Ba,Bb,za3,ne_eq,za4,za5,za6,Ia,Ib,Ic,Ie,Da,Bc,Bh,Be,za7,za8] at h')<;>try (exfalso; omega)) | (have q':=trivial; first | (refine callX_draw _ (c1) ⟨.inl rfl,trivial⟩ rfl (by simp [dstB]) (by omega) (by omega) (by omega) ?_; rintro _ ata sda hata1 hata2 hsda1 hsda2 ⟨xa,rfl,hxa⟩) | (refine callX_draw _ (c2) ⟨.inl rfl,.inl rfl,trivial⟩ rfl (by simp [dstB]) (by omega) (by omega) (by omega) ?_; rintro _ atb sdb hatb1 hatb2 hsdb1 hsdb2 ⟨xb,rfl,hxb⟩) | (refine callX_draw _ (c5 xa (by omega)) ⟨.inl rfl,.inl rfl,.inl rfl,trivial⟩ rfl (by simp [dstB]) (by omega) (by omega) (by omega) ?_; rintro _ atc sdc hatc1 hatc2 hsdc1 hsdc2 ⟨xc,rfl,hxc⟩) | (refine callX_draw _ (c3) ⟨.inl rfl,.inl rfl,trivial⟩ rfl (by simp [dstB]) (by omega) (by omega) (by omega) ?_; rintro _ atd sdd hatd1 hatd2 hsdd1 hsdd2 ⟨xd,rfl,hxd⟩) | (refine callX_drawL _ _ (c4) ⟨.inl rfl,.inl rfl,trivial⟩ rfl rfl (by decide) (by simp [dstB]) (by omega) (by omega) (by omega) ?_; rintro _ at1 sd1 hat1 hat2 hsd1 hsd2 ⟨x1,rfl,hx1⟩) | refine hE _ _ ret_ne ?_ | refine hE _ _ exit_ne ?_))<;>(try simp (disch:=first | omega | decide +kernel) only [q',curO,curB,D.bytes,go_sem,Qa,Qb,Qc,Qd,Qe,↓reduceIte,reduceCtorEq,Qf,Qg,Qh])<;>clear q') | refine hN _ ?_ ?_ Wk.kk | with_reducible refine And.intro ?_ ?_ | with_reducible omega | exact ok_ints | exact cells_ints | exact no_mem | with_reducible exact plain_ints | (refine le_maxLen ?_; omega) | (refine za9 ⟨?_,?_⟩) | (simp only [go_sem,Qc,Qb,zb1,zb2,forall_eq]; done)))
 all_goals (first | omega | (exact retR_draw rfl rfl rfl (by omega) (by omega) (by omega) (by omega) ⟨_,rfl,by omega⟩) | skip)
 refine Ok.loopN [30,29,28,27,26,25,24,23,22,21,20,19,18,17,16,15,14,13,12,11,10,9,8,7,6,5,3,1] (fun _ (w : ByteArray) => [(3,.d (.str w))]) (fun _ _ => []) (81 - xa.size) (fun i w => w.size=xa.size + i) xa rfl (Wk.kk) ?_
 rintro R i w hN hE hi hw
 simp (disch:=first | omega | decide +kernel) only [go_sem,Qa,Qb,Qc,Qd,Qe,↓reduceIte,reduceCtorEq,Qf,Qg,Qh]
 (repeat' (first | ((first | (refine gsel_split (fun q' => ?_) (fun q' => ?_)<;>(have h':=q')<;>(try simp only [za1,za2,Ba,Bb,za3,ne_eq,za4,za5,za6,Ia,Ib,Ic,Ie,Da,Bc,Bh,Be,za7,za8] at h')<;>try (exfalso; omega)) | (have q':=trivial; first | refine hE _ _ ret_ne ?_ | refine hE _ _ exit_ne ?_))<;>(try simp (disch:=first | omega | decide +kernel) only [q',z1,ByteArray.size_append,go_sem,Qa,Qb,Qc,Qd,Qe,↓reduceIte,reduceCtorEq,Qf,Qg,Qh])<;>clear q') | refine hN _ ?_ ?_ Wk.kk | with_reducible refine And.intro ?_ ?_ | with_reducible omega | exact ok_ints | exact cells_ints | exact no_mem | with_reducible exact plain_ints | (refine le_maxLen ?_; omega) | (refine za9 ⟨?_,?_⟩) | (simp only [go_sem,Qc,Qb,zb1,zb2,forall_eq]; done)))
 all_goals (first | omega | (refine hN (ByteArray.mk #[126]++w) _ (by omega) (by rw [ByteArray.size_append,z1]; omega) (by refine Wk.auto ?_ ?_<;>simp [extraK,lk,killL,St.kill,wipeO,wipeS,AV.has,AV.hasL,AO.wipe,List.map_set,updSt,insL,dropS,ins,])) | (exact retR_draw rfl rfl rfl (by omega) (by omega) (by omega) (by omega) ⟨_,rfl,by omega⟩))
theorem drawCaseOf_ok {code : List Int} (hc : CodeOK code) : CtrR Tryd.prog 36 [.d (D.bytes code)] [] [] true fun r oo => ∃ (k : Int) (a b c : ByteArray),r=.tup [.d (.int .i64 k),.d (.str a),.d (.str b),.d (.str c)]∧oo=[]∧(0<=k∧k<=11)∧a.size<=100∧b.size<=100∧c.size<=100:=by
 have c1:=pick_ok hc 12 (by omega)
 have c2:=one_ok hc 4 (by omega)
 have c3:=formulaText_ok hc
 have c4:=short24_ok hc
 refine CtrR.of (n:=29) (rs:=[.tmp 2,.tmp 3,.tmp 4,.tmp 5]) Tryd.func36 rfl rfl Tryd.ntmps36 rfl rfl (by kernel_rfl) Tryd.checked.mixed ?_; intro u
 simp (disch:=first | omega | decide +kernel) only [curO,curB,D.bytes,go_sem,Qa,Qb,Qc,Qd,Qe,↓reduceIte,reduceCtorEq,Qf,Qg,Qh]
 (repeat' (first | ((first | (refine gsel_split (fun q' => ?_) (fun q' => ?_)<;>(have h':=q')<;>(try simp only [za1,za2,Ba,Bb,za3,ne_eq,za4,za5,za6,Ia,Ib,Ic,Ie,Da,Bc,Bh,Be,za7,za8] at h')<;>try (exfalso; omega)) | (have q':=trivial; first | (refine callX_draw (at_:=0) _ (c1) ⟨.inl rfl,.inl rfl,trivial⟩ rfl (by simp [dstB]) (by omega) (by omega) (by omega) ?_; rintro _ ata sda hata1 hata2 hsda1 hsda2 ⟨xa,rfl,hxa⟩) | (refine callX_draw _ (c2) ⟨.inl rfl,.inl rfl,trivial⟩ rfl (by simp [dstB]) (by omega) (by omega) (by omega) ?_; rintro _ atb sdb hatb1 hatb2 hsdb1 hsdb2 ⟨xb,rfl,hxb⟩) | (refine callX_draw _ (c3) ⟨.inl rfl,trivial⟩ rfl (by simp [dstB]) (by omega) (by omega) (by omega) ?_; rintro _ atc sdc hatc1 hatc2 hsdc1 hsdc2 ⟨xc,rfl,hxc⟩) | (refine callX_draw _ (c4) ⟨.inl rfl,trivial⟩ rfl (by simp [dstB]) (by omega) (by omega) (by omega) ?_; rintro _ atd sdd hatd1 hatd2 hsdd1 hsdd2 ⟨xd,rfl,hxd⟩) | (refine callX_draw _ (c4) ⟨.inl rfl,trivial⟩ rfl (by simp [dstB]) (by omega) (by omega) (by omega) ?_; rintro _ ate sde hate1 hate2 hsde1 hsde2 ⟨xe,rfl,hxe⟩) | (refine callX_draw _ (c4) ⟨.inl rfl,trivial⟩ rfl (by simp [dstB]) (by omega) (by omega) (by omega) ?_; rintro _ atf sdf hatf1 hatf2 hsdf1 hsdf2 ⟨xf,rfl,hxf⟩) | refine hE _ _ ret_ne ?_ | refine hE _ _ exit_ne ?_))<;>(try simp (disch:=first | omega | decide +kernel) only [q',curO,curB,D.bytes,go_sem,Qa,Qb,Qc,Qd,Qe,↓reduceIte,reduceCtorEq,Qf,Qg,Qh])<;>clear q') | refine hN _ ?_ ?_ Wk.kk | with_reducible refine And.intro ?_ ?_ | with_reducible omega | exact ok_ints | exact cells_ints | exact no_mem | with_reducible exact plain_ints | (refine le_maxLen ?_; omega) | (refine za9 ⟨?_,?_⟩) | (simp only [go_sem,Qc,Qb,zb1,zb2,forall_eq]; done)))
 all_goals (first | exact ⟨_,_,⟨_,_,_,_,rfl,rfl,⟨by omega,by omega⟩,by omega,by omega,by omega⟩,retM_v4 rfl rfl rfl rfl⟩)
theorem drawSchemeOf_ok {code : List Int} (hc : CodeOK code) : CtrR Tryd.prog 42 [.d (D.bytes code)] [] [] true fun r oo => ∃ v : Int,r=.d (.int .i64 v)∧oo=[]:=by
 have c1:=pick_ok hc 13 (by omega)
 have c2:=pick_ok hc 8 (by omega)
 refine CtrR.of (n:=13) (rs:=[.tmp 2]) Tryd.func42 rfl rfl Tryd.ntmps42 rfl rfl (by kernel_rfl) Tryd.checked.mixed ?_; intro u
 simp (disch:=first | omega | decide +kernel) only [curO,curB,D.bytes,go_sem,Qa,Qb,Qc,Qd,Qe,↓reduceIte,reduceCtorEq,Qf,Qg,Qh]
 (repeat' (first | ((first | (refine gsel_split (fun q' => ?_) (fun q' => ?_)<;>(have h':=q')<;>(try simp only [za1,za2,Ba,Bb,za3,ne_eq,za4,za5,za6,Ia,Ib,Ic,Ie,Da,Bc,Bh,Be,za7,za8] at h')<;>try (exfalso; omega)) | (have q':=trivial; first | (refine callX_draw (at_:=0) _ (c1) ⟨.inl rfl,.inl rfl,trivial⟩ rfl (by simp [dstB]) (by omega) (by omega) (by omega) ?_; rintro _ ata sda hata1 hata2 hsda1 hsda2 ⟨xa,rfl,hxa⟩) | (refine callX_draw _ (c2) ⟨.inl rfl,.inl rfl,trivial⟩ rfl (by simp [dstB]) (by omega) (by omega) (by omega) ?_; rintro _ atb sdb hatb1 hatb2 hsdb1 hsdb2 ⟨xb,rfl,hxb⟩) | refine hE _ _ ret_ne ?_ | refine hE _ _ exit_ne ?_))<;>(try simp (disch:=first | omega | decide +kernel) only [q',curO,curB,D.bytes,go_sem,Qa,Qb,Qc,Qd,Qe,↓reduceIte,reduceCtorEq,Qf,Qg,Qh])<;>clear q') | refine hN _ ?_ ?_ Wk.kk | with_reducible refine And.intro ?_ ?_ | with_reducible omega | exact ok_ints | exact cells_ints | exact no_mem | with_reducible exact plain_ints | (refine le_maxLen ?_; omega) | (refine za9 ⟨?_,?_⟩) | (simp only [go_sem,Qc,Qb,zb1,zb2,forall_eq]; done)))
 all_goals (first | omega | (show (7 : Int) ≠ 0; decide) | exact ⟨_,_,⟨IntKind.i64.wrap (xa - IntKind.i64.wrap (xb.tdiv 7)),rfl,rfl⟩,retM_v rfl⟩)
theorem caseT_sz (j : Nat) (a b c : ByteArray) (ha : a.size<=1000) (hb : b.size<=1000) (hc : c.size<=1000) : (caseT j a b c).size<=30000:=by
 rw [size_BL]
 show (caseL j a b c).length<=30000
 have h:=flat_len (subL_len (n:=1000) (by omega) ha hb hc) (sch j).tl
 have hz:=sch_sz j
 rw [size_BL,BL_T] at hz
 exact Nat.le_trans h (by omega)
theorem drawSchemesOf_ok {code : List Int} (hc : CodeOK code) : CtrR Tryd.prog 45 [.d (D.bytes code)] [] [] true fun r oo => ∃ s : ByteArray,r=.d (.str s)∧oo=[]∧s.size<=40000:=by
 have c1:=one_ok hc 4 (by omega)
 have c2:=formulaText_ok hc
 have c3:=pick_ok hc 10 (by omega)
 have c4:=short24_ok hc
 have c5 : ∀ (x : Int) (a b c : ByteArray),0<=x->x < 10->a.size<=1000->b.size<=1000->c.size<=1000->Ctr Tryd.prog 111 [.int .i64 (1 + x),.str a,.str b,.str c] false (.d (.str (caseT x.toNat a b c))) []:=fun x a b c h1 h2 h3 h4 h5 => by
  have:=l24Case_ok x.toNat (by omega) a b c h3 h4 h5
  rwa [show ((x.toNat + 1 : Nat) : Int)=1 + x by omega] at this
 have c6:=one_ok hc 6 (by omega)
 have c7:=fun (t : ByteArray) (ht : t.size<=30000) => spoilt_ok hc t ⟨#[97,98,62,126,40,41,38,124,49]⟩ (by omega) (by decide)
 refine CtrR.of (n:=28) (rs:=[.tmp 2]) Tryd.func45 rfl rfl Tryd.ntmps45 rfl rfl (by kernel_rfl) Tryd.checked.mixed ?_; intro u
 simp (disch:=first | omega | decide +kernel) only [curO,curB,D.bytes,go_sem,Qa,Qb,Qc,Qd,Qe,↓reduceIte,reduceCtorEq,Qf,Qg,Qh]
 (repeat' (first | ((first | (refine gsel_split (fun q' => ?_) (fun q' => ?_)<;>(have h':=q')<;>(try simp only [za1,za2,Ba,Bb,za3,ne_eq,za4,za5,za6,Ia,Ib,Ic,Ie,Da,Bc,Bh,Be,za7,za8] at h')<;>try (exfalso; omega)) | (have q':=trivial; first | (refine callX_draw (at_:=0) _ (c1) ⟨.inl rfl,.inl rfl,trivial⟩ rfl (by simp [dstB]) (by omega) (by omega) (by omega) ?_; rintro _ ata sda hata1 hata2 hsda1 hsda2 ⟨xa,rfl,hxa⟩) | (refine callX_draw _ (c2) ⟨.inl rfl,trivial⟩ rfl (by simp [dstB]) (by omega) (by omega) (by omega) ?_; rintro _ atb sdb hatb1 hatb2 hsdb1 hsdb2 ⟨xb,rfl,hxb⟩) | (refine callX_draw _ (c3) ⟨.inl rfl,.inl rfl,trivial⟩ rfl (by simp [dstB]) (by omega) (by omega) (by omega) ?_; rintro _ atc sdc hatc1 hatc2 hsdc1 hsdc2 ⟨xc,rfl,hxc⟩) | (refine callX_draw _ (c4) ⟨.inl rfl,trivial⟩ rfl (by simp [dstB]) (by omega) (by omega) (by omega) ?_; rintro _ atd sdd hatd1 hatd2 hsdd1 hsdd2 ⟨xd,rfl,hxd⟩) | refine callX_new (c5 xc _ _ _ (by omega) (by omega) (by omega) (by omega) (by omega)) rfl (by decide) ?_ | refine callY_new (c5 xc _ _ _ (by omega) (by omega) (by omega) (by omega) (by omega)) rfl ?_ | (refine callX_draw _ (c6) ⟨.inl rfl,.inl rfl,trivial⟩ rfl (by simp [dstB]) (by omega) (by omega) (by omega) ?_; rintro _ atg sdg hatg1 hatg2 hsdg1 hsdg2 ⟨xg,rfl,hxg⟩) | (refine callX_draw _ (c7 _ (caseT_sz _ _ _ _ (by omega) (by omega) (by omega))) ⟨.inl rfl,.inl rfl,.inl rfl,trivial⟩ rfl (by simp [dstB]) (by omega) (by omega) (by omega) ?_; rintro _ ath sdh hath1 hath2 hsdh1 hsdh2 ⟨xh,rfl,hxh⟩) | refine hE _ _ ret_ne ?_ | refine hE _ _ exit_ne ?_))<;>(try simp (disch:=first | omega | decide +kernel) only [q',curO,curB,D.bytes,go_sem,Qa,Qb,Qc,Qd,Qe,↓reduceIte,reduceCtorEq,Qf,Qg,Qh])<;>clear q') | refine hN _ ?_ ?_ Wk.kk | with_reducible refine And.intro ?_ ?_ | with_reducible omega | exact ok_ints | exact cells_ints | exact no_mem | with_reducible exact plain_ints | (refine le_maxLen ?_; omega) | (refine za9 ⟨?_,?_⟩) | (simp only [go_sem,Qc,Qb,zb1,zb2,forall_eq]; done)))
 all_goals (first | exact ⟨_,_,⟨_,rfl,rfl,by omega⟩,retM_v rfl⟩ | exact ⟨_,_,⟨_,rfl,rfl,Nat.le_trans (caseT_sz _ _ _ _ (by omega) (by omega) (by omega)) (by omega)⟩,retM_v rfl⟩ | exact ⟨_,_,⟨_,rfl,rfl,Nat.le_trans hxh (Nat.le_trans (Nat.succ_le_succ (caseT_sz _ _ _ _ (by omega) (by omega) (by omega))) (by omega))⟩,retM_v rfl⟩)
end Abs.Y

namespace Abs
open Go Go.RowKit
def Z7c (P : Program) (N : Nat) (l : List Oper) (K : St->Prop) (st : St) : List (Oper × Nat)->List (Oper × Nat)->Nat->List Bool->List Oper->Prop
 | hs,ts,_,_,[] => HeadW P N l (fst7 hs) st (kH7 P N l hs ts K)
 | hs,ts,k,true :: cs,o :: r => Z7c P N l K st (hs++[(o,k)]) ts (k + 1) cs r
 | hs,ts,k,false :: cs,o :: r => Z7c P N l K st hs (ts++[(o,k)]) (k + 1) cs r
 | _,_,_,[],_ :: _ => False
@[go_sem] theorem Z7c_nil (P N l K st hs ts k cs) : Z7c P N l K st hs ts k cs []=HeadW P N l (fst7 hs) st (kH7 P N l hs ts K):=by cases cs<;>rfl
@[go_sem] theorem Z7c_in (P N l K st hs ts k cs o r) : Z7c P N l K st hs ts k (true :: cs) (o :: r)=Z7c P N l K st (hs++[(o,k)]) ts (k + 1) cs r:=rfl
@[go_sem] theorem Z7c_out (P N l K st hs ts k cs o r) : Z7c P N l K st hs ts k (false :: cs) (o :: r)=Z7c P N l K st hs (ts++[(o,k)]) (k + 1) cs r:=rfl
end Abs

namespace Abs
open Go Go.RowKit
def ok8 (cls : List Bool) (l : List Oper) : Bool :=
 let b:=masks l
 (l.zipIdx.all fun (o,k) => bif cls.getD k false then o.dst.isSome else isT7 o && o.guard.isNone) &&
 (l.zipIdx.all fun (o,i) => o.after.all fun e => !Region.binds .any e || e.on < i) &&
 (l.zipIdx.all fun (ok,k) => l.zipIdx.all fun (om,m) => (k == m || match om.dst with | some s => ok.dst != some s | none => true) &&
  (match om.dst with | some s => !(looks l ok).contains s || ((b.getD k 0).testBit m && (!cls.getD k false || cls.getD m false)) || (!cls.getD m false && Nat.blt k m && (b.getD m 0).testBit k) | none => true))
structure Checked8 (cls : List Bool) (l : List Oper) : Prop where
 hd : ∀ (k : Nat) (o : Oper),l[k]? = some o->cls.getD k false=true->∃ d,o.dst=some d
 tl : ∀ (k : Nat) (o : Oper),l[k]? = some o->cls.getD k false=false->isT7 o=true∧o.guard=none
 back : ∀ (i : Nat) (o : Oper),l[i]? = some o->∀ e ∈ o.after,Region.binds .any e=true->e.on < i
 apart : ∀ (k m : Nat) (ok om : Oper) (s : Nat),l[k]? = some ok->l[m]? = some om->k ≠ m->om.dst=some s->ok.dst ≠ some s
 looked : ∀ (k m : Nat) (ok om : Oper) (s : Nat),l[k]? = some ok->l[m]? = some om->om.dst=some s->s ∈ looks l ok->(Dep l k m∧(cls.getD k false=true->cls.getD m false=true))∨(cls.getD m false=false∧k < m)
section
variable {P : Program} {Z : Nat->Prop} {β : Nat->Value} {φ : Nat->Nat->Prop} {N B : Nat} {M : Nat->Prop} {w0 : World} {st : St} {a : Act} {w : World}
def minim (l : List Oper) (R : List (Oper × Nat)) (p : Oper × Nat) : Bool:=R.all fun q => !((masks l).getD p.2 0).testBit q.2
def tail8 (P : Program) (N : Nat) (l : List Oper) (hs : List (Oper × Nat)) : Nat->List (Oper × Nat)->St->(St->Prop)->Prop
 | _,[],S,K => K S
 | 0,_ :: _,_,_ => False
 | n + 1,p :: r,S,K => ∀ q ∈ p :: r,minim l (p :: r) q=true->stepA P N l S q.1 fun S' => headA P N l (floats l q.2 hs) S' (fun S'' => sameAt S' S'' (floats l q.2 hs))∧tail8 P N l hs n ((p :: r).filter fun x => x.2 != q.2) S' K
end
end Abs

namespace Abs
open Go Go.RowKit
def del8 (j : Nat) : List (Oper × Nat)->List (Oper × Nat)
 | [] => []
 | p :: r => bif Nat.beq p.2 j then del8 j r else p :: del8 j r
@[go_sem] theorem del8_nil (j) : del8 j []=[]:=rfl
def A8 (l : List Oper) (R : List (Oper × Nat)) (f : Oper × Nat->Prop) : List (Oper × Nat)->Prop
 | [] => True
 | p :: r => (minim l R p=true->f p)∧A8 l R f r
@[go_sem] theorem A8_nil (l R f) : A8 l R f []=True:=rfl
def T8 (P : Program) (N : Nat) (l : List Oper) (hs : List (Oper × Nat)) : List Oper->List (Oper × Nat)->(St->Prop)->St->Prop
 | _,[],K,S => K S
 | [],_ :: _,_,_ => False
 | _ :: fs,p :: r,K,S => A8 l (p :: r) (fun q => OpsW P N l [q.1] S fun S' => F7 P N l q.2 S' [] hs∧T8 P N l hs fs (del8 q.2 (p :: r)) K S') (p :: r)
@[go_sem] theorem T8_nil (P N l hs fs K S) : T8 P N l hs fs [] K S=K S:=by cases fs<;>rfl
@[go_sem] theorem T8_cons (P N l hs f fs o k r K S) : T8 P N l hs (f :: fs) ((o,k) :: r) K S=A8 l ((o,k) :: r) (fun q => OpsW P N l [q.1] S fun S' => F7 P N l q.2 S' [] hs∧T8 P N l hs fs (del8 q.2 ((o,k) :: r)) K S') ((o,k) :: r):=rfl
def kH8 (P : Program) (N : Nat) (l : List Oper) (hs ts : List (Oper × Nat)) (K : St->Prop) (S : St) : Prop:=T8 P N l hs l ts K S
@[go_sem] theorem kH8_eq (P N l hs ts K S) : kH8 P N l hs ts K S=T8 P N l hs l ts K S:=rfl
def Z8c (P : Program) (N : Nat) (l : List Oper) (K : St->Prop) (st : St) : List (Oper × Nat)->List (Oper × Nat)->Nat->List Bool->List Oper->Prop
 | hs,ts,_,_,[] => HeadW P N l (fst7 hs) st (kH8 P N l hs ts K)
 | hs,ts,k,true :: cs,o :: r => Z8c P N l K st (hs++[(o,k)]) ts (k + 1) cs r
 | hs,ts,k,false :: cs,o :: r => Z8c P N l K st hs (ts++[(o,k)]) (k + 1) cs r
 | _,_,_,[],_ :: _ => False
@[go_sem] theorem Z8c_nil (P N l K st hs ts k cs) : Z8c P N l K st hs ts k cs []=HeadW P N l (fst7 hs) st (kH8 P N l hs ts K):=by cases cs<;>rfl
@[go_sem] theorem Z8c_in (P N l K st hs ts k cs o r) : Z8c P N l K st hs ts k (true :: cs) (o :: r)=Z8c P N l K st (hs++[(o,k)]) ts (k + 1) cs r:=rfl
@[go_sem] theorem Z8c_out (P N l K st hs ts k cs o r) : Z8c P N l K st hs ts k (false :: cs) (o :: r)=Z8c P N l K st hs (ts++[(o,k)]) (k + 1) cs r:=rfl
end Abs
