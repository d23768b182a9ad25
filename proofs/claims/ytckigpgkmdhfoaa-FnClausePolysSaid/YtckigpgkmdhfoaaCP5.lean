/- What functions of this program compute, over plain data. No condition. -/
import Derived.Test.YtckigpgkmdhfoaaCP4
set_option linter.all false
namespace Abs.Y
open Go Go.Proofs Abs
open Nat renaming reduceEqDiff -> Qa, reduceLT -> Qb, reduceAdd -> Qc, reduceMul -> Qd, reduceSub -> Qe, reduceLeDiff -> Qf, reduceSubDiff -> Qg, reduceBEq -> Qh
open Bool renaming not_eq_true' -> Ba, not_eq_false' -> Bb, and_eq_true -> Bc, or_eq_true -> Bh, or_eq_false_iff -> Be
open Int renaming ofNat_lt -> Ia, ofNat_le -> Ib, not_lt -> Ic, not_le -> Ie
open Decidable renaming not_not -> Da
set_option maxRecDepth 100000

theorem okCnf_allC {u : Int} {cs : List (List Int)} (h : okCnf u cs=true) : ∀ c ∈ cs,okClause u c=true:=by
 simp only [okCnf,Bc,List.all_eq_true] at h
 exact h.2
@[reducible] def QA : AV -> Prop := fun r => ∃ x : (Int × Int × List (List Int)) × (List (Int × Int) × List (Int × Int)), r = .tup [.d (.int .i64 x.1.1), .d (.agg [.int .i64 x.1.2.1, .slice (x.1.2.2.map D.ints)]), .d (D.tms x.2.1), .d (D.tms x.2.2)] ∧
  2<=x.1.1∧x.1.1<=7∧-1<=x.1.2.1∧x.1.2.1<=13∧x.1.2.2.length<=100∧(∀ c ∈ x.1.2.2,c.length<=100)∧x.2.1.length<=70∧x.2.2.length<=70
set_option maxHeartbeats 8000000 in
theorem drawAreSameOn_ok {code : List Int} (hc : CodeOK code) : CtrR Try.prog 25 [.d (D.bytes code)] [] [] true fun r oo => oo=[]∧QA r:=by
 have c1:=prime18_ok hc
 have c2:=dcnf_ok hc
 have c3:=fun (p v : Int) h => poly_ok hc p v h
 refine CtrR.ofO (n:=79) (rs:=[.tmp 2,.cell 3 26,.tmp 4,.tmp 5]) Try.func25 rfl rfl Try.ntmps25 rfl rfl (by kernel_rfl) Try.checked.mixed ?_; intro u
 refine Ok.endsW ?_
 refine Ok.seq (Ok.go ?_)
 simp (disch:=first | omega | decide +kernel) only [curO,curB,D.bytes,go_sem,Qa,Qb,Qc,Qd,Qe,↓reduceIte,reduceCtorEq,Qf,Qg,Qh]
 refine Ok.seq (Ok.go ?_)
 simp (disch:=first | omega | decide +kernel) only [curO,curB,D.bytes,go_sem,Qa,Qb,Qc,Qd,Qe,↓reduceIte,reduceCtorEq,Qf,Qg,Qh]
 refine Ok.seq (Ok.go ?_)
 simp (disch:=first | omega | decide +kernel) only [curO,curB,D.bytes,go_sem,Qa,Qb,Qc,Qd,Qe,↓reduceIte,reduceCtorEq,Qf,Qg,Qh]
 (repeat' (first | ((first | (refine gsel_split (fun q' => ?_) (fun q' => ?_)<;>(have h':=q')<;>(try simp only [za1,za2,Ba,Bb,za3,ne_eq,za4,za5,za6,Ia,Ib,Ic,Ie,Da,Bc,Bh,Be,za7,za8] at h')<;>try (exfalso; omega)) | (have q':=trivial; first | (refine callX_draw (at_:=0) _ (c1) ⟨.inl rfl,trivial⟩ rfl (by simp [dstB]) (by omega) (by omega) (by omega) ?_; rintro _ ata sda hata1 hata2 hsda1 hsda2 ⟨xa,rfl,hxa⟩) | refine hE _ _ ret_ne ?_ | refine hE _ _ exit_ne ?_))<;>(try simp (disch:=first | omega | decide +kernel) only [q',curO,curB,D.bytes,go_sem,Qa,Qb,Qc,Qd,Qe,↓reduceIte,reduceCtorEq,Qf,Qg,Qh])<;>clear q') | refine hN _ ?_ ?_ Wk.kk | with_reducible refine And.intro ?_ ?_ | with_reducible omega | exact ok_ints | exact cells_ints | exact no_mem | with_reducible exact plain_ints | (refine le_maxLen ?_; omega) | (refine za9 ⟨?_,?_⟩) | (simp only [go_sem,Qc,Qb,zb1,zb2,forall_eq]; done)))
 refine Ok.seq (Ok.go ?_)
 simp (disch:=first | omega | decide +kernel) only [curO,curB,D.bytes,go_sem,Qa,Qb,Qc,Qd,Qe,↓reduceIte,reduceCtorEq,Qf,Qg,Qh]
 (repeat' (first | ((first | (refine gsel_split (fun q' => ?_) (fun q' => ?_)<;>(have h':=q')<;>(try simp only [za1,za2,Ba,Bb,za3,ne_eq,za4,za5,za6,Ia,Ib,Ic,Ie,Da,Bc,Bh,Be,za7,za8] at h')<;>try (exfalso; omega)) | (have q':=trivial; first | (refine callX_draw _ (c2) ⟨.inl rfl,trivial⟩ rfl (by simp [dstB]) (by omega) (by omega) (by omega) ?_; rintro _ atb sdb hatb1 hatb2 hsdb1 hsdb2 ⟨xb,rfl,hxb⟩) | refine hE _ _ ret_ne ?_ | refine hE _ _ exit_ne ?_))<;>(try simp (disch:=first | omega | decide +kernel) only [q',curO,curB,D.bytes,go_sem,Qa,Qb,Qc,Qd,Qe,↓reduceIte,reduceCtorEq,Qf,Qg,Qh])<;>clear q') | refine hN _ ?_ ?_ Wk.kk | with_reducible refine And.intro ?_ ?_ | with_reducible omega | exact ok_ints | exact cells_ints | exact no_mem | with_reducible exact plain_ints | (refine le_maxLen ?_; omega) | (refine za9 ⟨?_,?_⟩) | (simp only [go_sem,Qc,Qb,zb1,zb2,forall_eq]; done)))
 clear c1 c2
 obtain ⟨p,q⟩:=xa
 obtain ⟨v,cs⟩:=xb
 dsimp only at hxa hxb ⊢
 obtain ⟨hp1,hp2,_,_⟩:=hxa
 obtain ⟨hv1,hv2,hl,hcl⟩:=hxb
 refine Ok.seq (Ok.reg7 [true,true,true,true,false,true,true,true,true,false,false,false] (by decide +kernel) ?_)
 simp (disch:=first | omega | decide +kernel) only [curO,curB,D.bytes,go_sem,Qa,Qb,Qc,Qd,Qe,↓reduceIte,reduceCtorEq,Qf,Qg,Qh]
 (repeat' (first | ((first | (refine gsel_split (fun q' => ?_) (fun q' => ?_)<;>(have h':=q')<;>(try simp only [za1,za2,Ba,Bb,za3,ne_eq,za4,za5,za6,Ia,Ib,Ic,Ie,Da,Bc,Bh,Be,za7,za8] at h')<;>try (exfalso; omega)) | (have q':=trivial; first | (refine callX_drawR _ (c3 _ _ (by omega)) ⟨.inl rfl,.inl rfl,.inl rfl,trivial⟩ rfl (by decide) (by omega) (by omega) (by omega) (by omega) ?_; rintro atc sdc _ hatc1 hatc2 hsdc1 hsdc2 ⟨xc,rfl,hxc⟩) | (refine callX_drawR _ (c3 _ _ (by omega)) ⟨.inl rfl,.inl rfl,.inl rfl,trivial⟩ rfl (by decide) (by omega) (by omega) (by omega) (by omega) ?_; rintro atd sdd _ hatd1 hatd2 hsdd1 hsdd2 ⟨xd,rfl,hxd⟩) | refine hE _ _ ret_ne ?_ | refine hE _ _ exit_ne ?_))<;>(try simp (disch:=first | omega | decide +kernel) only [q',curO,curB,D.bytes,go_sem,Qa,Qb,Qc,Qd,Qe,↓reduceIte,reduceCtorEq,Qf,Qg,Qh])<;>clear q') | refine hN _ ?_ ?_ Wk.kk | with_reducible refine And.intro ?_ ?_ | with_reducible omega | exact ok_ints | exact cells_ints | exact no_mem | with_reducible exact plain_ints | (refine le_maxLen ?_; omega) | (refine za9 ⟨?_,?_⟩) | (simp only [go_sem,Qc,Qb,zb1,zb2,forall_eq]; done)))
 rename_i xz hxz
 clear c3
 refine Ok.weak (Wk.frz (j:=3200000) rfl) ?_
 simp (disch:=first | omega | decide +kernel) only [St.frz,frzS,frzO,AV.frz,AV.frzL,AO.frz,go_sem,Qa,Qb,Qc,Qd,Qe,↓reduceIte,reduceCtorEq,Qf,Qg,Qh]
 refine Ok.weak (Wk.frz (j:=2700000) rfl) ?_
 simp (disch:=first | omega | decide +kernel) only [St.frz,frzS,frzO,AV.frz,AV.frzL,AO.frz,go_sem,Qa,Qb,Qc,Qd,Qe,↓reduceIte,reduceCtorEq,Qf,Qg,Qh]
 refine Ok.weak (show Wk _ _ ⟨[(11,.d (D.tms xc)),(10,.d (D.tms xz)),(9,.p 9 0),(7,.d (.int .i64 p)),(6,.p 14 0),(5,.sl 5),(4,.sl 4),(3,.p 3 0),(2,.d (.int .i64 0))],
  [(14,.box 79 [.d (.slice (code.map (.int .u8))),.d (.int .i64 (atc : Nat)),.d (.int .u64 sdc)]),(9,.box 26 [.d (.int .i64 v),.d (.slice (cs.map D.ints))]),(5,.arr 93 2 []),(4,.arr 93 2 []),(3,.box 26 [.d (.int .i64 0),.d (.slice [])])]⟩ from (Wk.kk)) ?_
 have c4:=l2Good_ok v cs (by omega) fun j => by
  by_cases hj : j < cs.length
  . have:=hcl _ (getD_mem (z:=([] : List Int)) hj); omega
  . rw [List.getD_eq_getElem?_getD,List.getElem?_eq_none (by omega)]; simp
 have c5:=l18Two_ok p v xz xc (by omega) (by omega)
 have c6:=one_ok hc 2 (by omega)
 have fin : ∀ y : List (Int × Int),y.length<=70->QA (.tup [.d (.int .i64 p),.d (.agg [.int .i64 v,.slice (cs.map D.ints)]),.d (D.tms xz),.d (D.tms y)]):=fun y hy => ⟨((p,v,cs),(xz,y)),rfl,hp1,hp2,hv1,hv2,hl,hcl,hxz,hy⟩
 cases h4 : okCnf v cs with
 | false =>
   rw [h4] at c4
   refine Ok.go ?_
   simp (disch:=first | omega | decide +kernel) only [go_sem,Qa,Qb,Qc,Qd,Qe,↓reduceIte,reduceCtorEq,Qf,Qg,Qh]
   (repeat' (first | ((first | (refine gsel_split (fun q' => ?_) (fun q' => ?_)<;>(have h':=q')<;>(try simp only [za1,za2,Ba,Bb,za3,ne_eq,za4,za5,za6,Ia,Ib,Ic,Ie,Da,Bc,Bh,Be,za7,za8] at h')<;>try (exfalso; omega)) | (have q':=trivial; first | refine callX_new (c4) rfl (by decide) ?_ | refine callY_new (c4) rfl ?_ | refine hE _ _ ret_ne ?_ | refine hE _ _ exit_ne ?_))<;>(try simp (disch:=first | omega | decide +kernel) only [q',go_sem,Qa,Qb,Qc,Qd,Qe,↓reduceIte,reduceCtorEq,Qf,Qg,Qh])<;>clear q') | refine hN _ ?_ ?_ Wk.kk | with_reducible refine And.intro ?_ ?_ | with_reducible omega | exact ok_ints | exact cells_ints | exact no_mem | with_reducible exact plain_ints | (refine le_maxLen ?_; omega) | (refine za9 ⟨?_,?_⟩) | (simp only [go_sem,Qc,Qb,zb1,zb2,forall_eq]; done)))
   all_goals (refine endF [] ?_; exact retR_vcvv rfl rfl rfl rfl rfl (by simp only [go_sem]) (by simp only [go_sem,List.length_cons,List.length_nil]) rfl (by simp only [go_sem]) ⟨rfl,fin xc hxc⟩)
 | true =>
   rw [h4] at c4
   cases h5 : (primeB p v && (isT p (2 ^ v.toNat) xz && isT p (2 ^ v.toNat) xc)) with
   | false =>
     rw [h5] at c5
     refine Ok.go ?_
     simp (disch:=first | omega | decide +kernel) only [go_sem,Qa,Qb,Qc,Qd,Qe,↓reduceIte,reduceCtorEq,Qf,Qg,Qh]
     (repeat' (first | ((first | (refine gsel_split (fun q' => ?_) (fun q' => ?_)<;>(have h':=q')<;>(try simp only [za1,za2,Ba,Bb,za3,ne_eq,za4,za5,za6,Ia,Ib,Ic,Ie,Da,Bc,Bh,Be,za7,za8] at h')<;>try (exfalso; omega)) | (have q':=trivial; first | refine callX_new (c4) rfl (by decide) ?_ | refine callY_new (c4) rfl ?_ | refine callX_new (c5) rfl (by decide) ?_ | refine callY_new (c5) rfl ?_ | refine hE _ _ ret_ne ?_ | refine hE _ _ exit_ne ?_))<;>(try simp (disch:=first | omega | decide +kernel) only [q',go_sem,Qa,Qb,Qc,Qd,Qe,↓reduceIte,reduceCtorEq,Qf,Qg,Qh])<;>clear q') | refine hN _ ?_ ?_ Wk.kk | with_reducible refine And.intro ?_ ?_ | with_reducible omega | exact ok_ints | exact cells_ints | exact no_mem | with_reducible exact plain_ints | (refine le_maxLen ?_; omega) | (refine za9 ⟨?_,?_⟩) | (simp only [go_sem,Qc,Qb,zb1,zb2,forall_eq]; done)))
     all_goals (refine endF [] ?_; exact retR_vcvv rfl rfl rfl rfl rfl (by simp only [go_sem]) (by simp only [go_sem,List.length_cons,List.length_nil]) rfl (by simp only [go_sem]) ⟨rfl,fin xc hxc⟩)
   | true =>
     rw [h5] at c5
     simp only [Bc] at h5
     obtain ⟨hpr,hTz,hTc⟩:=h5
     obtain ⟨hp,hu0,hu6⟩:=primeB_of hpr
     obtain ⟨z,rfl⟩:=Int.eq_ofNat_of_zero_le hu0
     rw [Int.toNat_natCast] at hTz hTc
     have h6:=pow_le6 (u:=z) (by omega)
     have hk:=okCnf_allC h4
     refine Ok.seq (Ok.seq (Ok.go ?_))
     simp (disch:=first | omega | decide +kernel) only [List.length_map,go_sem,Qa,Qb,Qc,Qd,Qe,↓reduceIte,reduceCtorEq,Qf,Qg,Qh]
     (repeat' (first | ((first | (refine gsel_split (fun q' => ?_) (fun q' => ?_)<;>(have h':=q')<;>(try simp only [za1,za2,Ba,Bb,za3,ne_eq,za4,za5,za6,Ia,Ib,Ic,Ie,Da,Bc,Bh,Be,za7,za8] at h')<;>try (exfalso; omega)) | (have q':=trivial; first | refine callX_new (c4) rfl (by decide) ?_ | refine callY_new (c4) rfl ?_ | refine callX_new (c5) rfl (by decide) ?_ | refine callY_new (c5) rfl ?_ | (refine callX_draw _ (c6) ⟨.inl rfl,.inl rfl,trivial⟩ rfl (by simp [dstB]) (by omega) (by omega) (by omega) ?_; rintro _ atd sdd hatd1 hatd2 hsdd1 hsdd2 ⟨xd,rfl,hxd⟩) | refine hE _ _ ret_ne ?_ | refine hE _ _ exit_ne ?_))<;>(try simp (disch:=first | omega | decide +kernel) only [q',curO,curB,D.bytes,List.length_map,go_sem,Qa,Qb,Qc,Qd,Qe,↓reduceIte,reduceCtorEq,Qf,Qg,Qh])<;>clear q') | refine hN _ ?_ ?_ Wk.kk | with_reducible refine And.intro ?_ ?_ | with_reducible omega | exact ok_ints | exact cells_ints | exact no_mem | with_reducible exact plain_ints | (refine le_maxLen ?_; omega) | (refine za9 ⟨?_,?_⟩) | (simp only [go_sem,Qc,Qb,zb1,zb2,forall_eq]; done)))
     . cases xd with
       | false =>
         refine Ok.condB rfl ?_
         refine Ok.go ?_
         simp (disch:=first | omega | decide +kernel) only [go_sem,Qa,Qb,Qc,Qd,Qe,↓reduceIte,reduceCtorEq,Qf,Qg,Qh]
         refine Ok.go ?_
         simp (disch:=first | omega | decide +kernel) only [go_sem,Qa,Qb,Qc,Qd,Qe,↓reduceIte,reduceCtorEq,Qf,Qg,Qh]
         (repeat' (first | ((first | (refine gsel_split (fun q' => ?_) (fun q' => ?_)<;>(have h':=q')<;>(try simp only [za1,za2,Ba,Bb,za3,ne_eq,za4,za5,za6,Ia,Ib,Ic,Ie,Da,Bc,Bh,Be,za7,za8] at h')<;>try (exfalso; omega)) | (have q':=trivial; first | refine hE _ _ ret_ne ?_ | refine hE _ _ exit_ne ?_))<;>(try simp (disch:=first | omega | decide +kernel) only [q',go_sem,Qa,Qb,Qc,Qd,Qe,↓reduceIte,reduceCtorEq,Qf,Qg,Qh])<;>clear q') | refine hN _ ?_ ?_ Wk.kk | with_reducible refine And.intro ?_ ?_ | with_reducible omega | exact ok_ints | exact cells_ints | exact no_mem | with_reducible exact plain_ints | (refine le_maxLen ?_; omega) | (refine za9 ⟨?_,?_⟩) | (simp only [go_sem,Qc,Qb,zb1,zb2,forall_eq]; done)))
         refine endF [] ?_
         exact retR_vcvv rfl rfl rfl rfl rfl (by simp only [go_sem]) (by simp only [go_sem,List.length_cons,List.length_nil]) rfl (by simp only [go_sem]) ⟨rfl,fin xc hxc⟩
       | true =>
         refine Ok.condA rfl ?_
         have c7:=pick_ok hc (cs.length : Nat) (by omega)
         have c8 : ∀ x : Int,0<=x->x < cs.length->Ctr Try.prog 62 [.int .i64 p,.int .i64 (z : Nat),D.ints (cs.getD x.toNat [])] true (.d (D.tms (spT (clauseD p z (cs.getD x.toNat []))))) []:=fun x h1 h2 => by
          have hm:=getD_mem (z:=([] : List Int)) (l:=cs) (i:=x.toNat) (by omega)
          have:=hcl _ hm
          exact l18Clause_ok hp (u:=z) (by omega) (by omega) (clause_lits (hk _ hm))
         have c9 : ∀ x : Int,Ctr Try.prog 72 [.int .i64 p,.int .i64 (z : Nat),D.tms xc,D.tms (spT (clauseD p z (cs.getD x.toNat [])))] false (.sl 0) [(0,.arr 93 2 ((spT (mulS p (2 ^ z) xc (spT (clauseD p z (cs.getD x.toNat []))))).map D.tm))]:=fun x => by
          have hv:=Vec.clause (p:=p) hp.1 z (cs.getD x.toNat [])
          have:=sp_len (clauseD p z (cs.getD x.toNat []))
          exact l18Mul_ok hp (u:=z) (by omega) (by omega) (by have:=hv.1; omega) (isT_tms hTc) (tms_sp hv)
         have c10 : ∀ x : Int,∃ w : List (Int × Int),w.length<=70∧Ctr Try.prog 71 [.int .i64 p,.int .i64 (z : Nat),D.tms xz,D.tms (spT (mulS p (2 ^ z) xc (spT (clauseD p z (cs.getD x.toNat []))))),.int .i64 1] false (.sl 0) [(0,.arr 93 2 (w.map D.tm))]:=fun x => by
          have hv:=Vec.mulS (p:=p) (by omega) (2 ^ z) xc (spT (clauseD p z (cs.getD x.toNat [])))
          have h7:=sp_len (mulS p (2 ^ z) xc (spT (clauseD p z (cs.getD x.toNat []))))
          have h8:=hv.1
          refine ⟨_,?_,l18Add_ok hp (u:=z) (by omega) (by omega) (by omega) (isT_tms hTz) (tms_sp hv)⟩
          refine Nat.le_trans (sp_len _) ?_
          have:=(Vec.addD (p:=p) (k:=1) (n:=2 ^ z) (a:=dnT (2 ^ z) xz) (b:=dnT (2 ^ z) (spT (mulS p (2 ^ z) xc (spT (clauseD p z (cs.getD x.toNat [])))))) (by omega) (dnT_len _ _) (dnT_len _ _)).1
          omega
         have hei : ∀ x : Int,0<=x->x < cs.length->el (cs.map D.ints) x.toNat=.slice ((cs.getD x.toNat []).map (.int .i64)):=fun x h1 h2 => el_intss (by omega)
         generalize (2 : Nat) ^ z=n at *
         refine Ok.reg7 [true,true,true,true,true,true,true,true,true,true,true,true,true,true,true,true,true,false,false,false,false,false,false,false] (by decide +kernel) ?_
         simp (disch:=first | omega | decide +kernel) only [List.length_map,hei,go_sem,Qa,Qb,Qc,Qd,Qe,↓reduceIte,reduceCtorEq,Qf,Qg,Qh]
         (repeat' (first | ((first | (refine gsel_split (fun q' => ?_) (fun q' => ?_)<;>(have h':=q')<;>(try simp only [za1,za2,Ba,Bb,za3,ne_eq,za4,za5,za6,Ia,Ib,Ic,Ie,Da,Bc,Bh,Be,za7,za8] at h')<;>try (exfalso; omega)) | (have q':=trivial; first | (refine callX_draw _ (c7) ⟨.inl rfl,.inl rfl,trivial⟩ rfl (by simp [dstB]) (by omega) (by omega) (by omega) ?_; rintro _ ate sde hate1 hate2 hsde1 hsde2 ⟨xe,rfl,hxe⟩) | refine hE _ _ ret_ne ?_ | refine hE _ _ exit_ne ?_))<;>(try simp (disch:=first | omega | decide +kernel) only [q',curO,curB,D.bytes,List.length_map,hei,go_sem,Qa,Qb,Qc,Qd,Qe,↓reduceIte,reduceCtorEq,Qf,Qg,Qh])<;>clear q') | refine hN _ ?_ ?_ Wk.kk | with_reducible refine And.intro ?_ ?_ | with_reducible omega | exact ok_ints | exact cells_ints | exact no_mem | with_reducible exact plain_ints | (refine le_maxLen ?_; omega) | (refine za9 ⟨?_,?_⟩) | (simp only [go_sem,Qc,Qb,zb1,zb2,forall_eq]; done)))
         have d8:=c8 xe (by omega) (by omega)
         have d9:=c9 xe
         obtain ⟨w,hw,d10⟩:=c10 xe
         clear c7 c8 c9 c10
         simp only [D.ints] at d8
         (repeat' (first | ((first | (refine gsel_split (fun q' => ?_) (fun q' => ?_)<;>(have h':=q')<;>(try simp only [za1,za2,Ba,Bb,za3,ne_eq,za4,za5,za6,Ia,Ib,Ic,Ie,Da,Bc,Bh,Be,za7,za8] at h')<;>try (exfalso; omega)) | (have q':=trivial; first | refine callX_shared (d8) rfl (by decide) ?_ | refine callY_shared (d8) rfl ?_ | refine callX_new (d9) rfl (by decide) ?_ | refine callY_new (d9) rfl ?_ | refine callX_new (d10) rfl (by decide) ?_ | refine callY_new (d10) rfl ?_ | refine hE _ _ ret_ne ?_ | refine hE _ _ exit_ne ?_))<;>(try simp (disch:=first | omega | decide +kernel) only [q',curO,curB,D.bytes,List.length_map,hei,go_sem,Qa,Qb,Qc,Qd,Qe,↓reduceIte,reduceCtorEq,Qf,Qg,Qh])<;>clear q') | refine hN _ ?_ ?_ Wk.kk | with_reducible refine And.intro ?_ ?_ | with_reducible omega | exact ok_ints | exact cells_ints | exact no_mem | with_reducible exact plain_ints | (refine le_maxLen ?_; omega) | (refine za9 ⟨?_,?_⟩) | (simp only [go_sem,Qc,Qb,zb1,zb2,forall_eq]; done)))
         refine Ok.go ?_
         simp (disch:=first | omega | decide +kernel) only [go_sem,Qa,Qb,Qc,Qd,Qe,↓reduceIte,reduceCtorEq,Qf,Qg,Qh]
         (repeat' (first | ((first | (refine gsel_split (fun q' => ?_) (fun q' => ?_)<;>(have h':=q')<;>(try simp only [za1,za2,Ba,Bb,za3,ne_eq,za4,za5,za6,Ia,Ib,Ic,Ie,Da,Bc,Bh,Be,za7,za8] at h')<;>try (exfalso; omega)) | (have q':=trivial; first | refine hE _ _ ret_ne ?_ | refine hE _ _ exit_ne ?_))<;>(try simp (disch:=first | omega | decide +kernel) only [q',go_sem,Qa,Qb,Qc,Qd,Qe,↓reduceIte,reduceCtorEq,Qf,Qg,Qh])<;>clear q') | refine hN _ ?_ ?_ Wk.kk | with_reducible refine And.intro ?_ ?_ | with_reducible omega | exact ok_ints | exact cells_ints | exact no_mem | with_reducible exact plain_ints | (refine le_maxLen ?_; omega) | (refine za9 ⟨?_,?_⟩) | (simp only [go_sem,Qc,Qb,zb1,zb2,forall_eq]; done)))
         refine endF [7500000] ?_
         exact retR_vcvv rfl rfl rfl rfl rfl (by simp only [go_sem]) (by simp only [go_sem,List.length_cons,List.length_nil]) rfl (by simp only [go_sem]) ⟨rfl,fin w hw⟩
     . refine Ok.condB rfl ?_
       refine Ok.go ?_
       simp (disch:=first | omega | decide +kernel) only [go_sem,Qa,Qb,Qc,Qd,Qe,↓reduceIte,reduceCtorEq,Qf,Qg,Qh]
       refine Ok.go ?_
       simp (disch:=first | omega | decide +kernel) only [go_sem,Qa,Qb,Qc,Qd,Qe,↓reduceIte,reduceCtorEq,Qf,Qg,Qh]
       (repeat' (first | ((first | (refine gsel_split (fun q' => ?_) (fun q' => ?_)<;>(have h':=q')<;>(try simp only [za1,za2,Ba,Bb,za3,ne_eq,za4,za5,za6,Ia,Ib,Ic,Ie,Da,Bc,Bh,Be,za7,za8] at h')<;>try (exfalso; omega)) | (have q':=trivial; first | refine hE _ _ ret_ne ?_ | refine hE _ _ exit_ne ?_))<;>(try simp (disch:=first | omega | decide +kernel) only [q',go_sem,Qa,Qb,Qc,Qd,Qe,↓reduceIte,reduceCtorEq,Qf,Qg,Qh])<;>clear q') | refine hN _ ?_ ?_ Wk.kk | with_reducible refine And.intro ?_ ?_ | with_reducible omega | exact ok_ints | exact cells_ints | exact no_mem | with_reducible exact plain_ints | (refine le_maxLen ?_; omega) | (refine za9 ⟨?_,?_⟩) | (simp only [go_sem,Qc,Qb,zb1,zb2,forall_eq]; done)))
       refine endF [] ?_
       exact retR_vcvv rfl rfl rfl rfl rfl (by simp only [go_sem]) (by simp only [go_sem,List.length_cons,List.length_nil]) rfl (by simp only [go_sem]) ⟨rfl,fin xc hxc⟩
end Abs.Y
