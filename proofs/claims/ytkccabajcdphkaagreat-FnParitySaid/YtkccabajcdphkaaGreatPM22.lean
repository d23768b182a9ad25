/- What functions of this program compute, over plain data. No condition. -/
import Derived.Test.YtkccabajcdphkaaGreatPM21
set_option linter.all false
open Nat renaming reduceEqDiff -> Qa, reduceLT -> Qb, reduceAdd -> Qc, reduceMul -> Qd, reduceSub -> Qe, reduceLeDiff -> Qf, reduceSubDiff -> Qg, reduceBEq -> Qh
open Bool renaming not_eq_true' -> Ba, not_eq_false' -> Bb, and_eq_true -> Bc, or_eq_true -> Bh, or_eq_false_iff -> Be
open Int renaming ofNat_lt -> Ia, ofNat_le -> Ib, not_lt -> Ic, not_le -> Ie
open Decidable renaming not_not -> Da
namespace Abs
open Go Go.Proofs
theorem Ok.seqF {P : Program} {N : Nat} {x y : Code} {Q : Exit->St->Prop} {st : St} {A : Type} (F : A->St) (C : A->Prop) (h1 : ∀ a,C a->Ok P N y Q (F a)) (h2 : Ok P N x (fun e s => (e=.normal∧∃ a,C a∧Wk N s (F a))∨(e ≠ .normal∧Q e s)) st) : Ok P N (.seq x y) Q st :=
 Ok.seq (h2.mono fun e s h => by
  cases e with
  | normal =>
    rcases h with ⟨_,a,ha,h⟩ | ⟨h,_⟩
    . exact Ok.weak h (h1 a ha)
    . exact absurd rfl h
  | _ =>
    rcases h with ⟨h,_⟩ | ⟨_,h⟩
    . cases h
    . exact h)
end Abs
namespace Abs.Y
open Go Go.Proofs Abs
set_option maxRecDepth 100000

structure GA where
 n : Int
 es : List (Int × Int)
 cs : List Int
 t : Nat
 s : Int
@[reducible] def gaS (u : Nat -> Value) (code : List Int) (a : GA) : St := ⟨[(1000000000, .hdr 0 (u 0)), (3, .p 3 0), (2, .p 2 0), (0, .p 0 0)],
  [(900000002,chO a.cs),(900000001,edO a.es),(3,.box 27 [.d (.int .i64 a.n),.sl 900000001,.sl 900000002]),(2,.box 27 [.d (.int .i64 0),.d (.slice []),.d (.slice [])]),(0,curB code a.t a.s)]⟩
@[reducible] def gaC (at_ K : Nat) (a : GA) : Prop:=(-1<=a.n∧a.n<=10)∧a.es.length<=40∧(1<=a.cs.length∧a.cs.length<=8)∧(at_<=a.t∧a.t<=at_ + K)∧(0<=a.s∧a.s < 18446744073709551616)
@[reducible] def QG : AV->Prop:=fun r => ∃ g : Chg,r=.d (D.chg g)∧g.ed.length<=60∧g.ch.length<=60
theorem retR_drawG {a j : Nat} {t e : TypeId} {cells : List AV} {ds : List D} {u : Nat->Value} {st : St} {code : List Int} {at_ k : Nat} {Q : AV->Prop} {at' : Nat} {seed' : Int} (h : lk a st.s=some (.p j 0)) (hj : lk j st.o=some (.box e cells)) (hag : aggT Tryz.prog t=true) (hn : Tryz.prog.cellsOf t=cells.length) (hd : allD cells=some ds)
 (hu : (Tryz.prog.underlying t).isSome=true) (ho : lk 0 st.o=some (curB code at' seed')) (hk : lk 1000000000 st.s=some (.hdr 0 (u 0))) (h1 : at_<=at') (h2 : at'<=at_ + k) (h3 : 0<=seed') (h4 : seed' < 18446744073709551616) (hQ : Q (.d (.agg ds))) :
 retR Tryz.prog [.cell a t] u [0] true (fun r oo => ∃ at' seed',at_<=at'∧at'<=at_ + k∧0<=seed'∧seed' < 18446744073709551616∧oo=curO code at' seed'∧Q r) .ret st:=by
 have hl : (lk a st.s).bind (xi5 Tryz.prog st.o t)=some (0 + Tryz.prog.cellsOf t<=cells.length∧(Tryz.prog.underlying t).isSome=true,.d (.agg ds)):=by
  rw [h,Option.bind_some,xi5,hj]
  simp only [hag,if_true,List.drop_zero,hn,List.take_length,hd]
 refine ⟨_,_,⟨at',seed',h1,h2,h3,h4,rfl,hQ⟩,?_⟩
 simp only [retM,resV,hl]
 exact ⟨⟨hu,⟨by omega,hu⟩,trivial⟩,⟨fun j => j,rfl,fun p hp => by obtain rfl:=List.mem_singleton.1 hp; exact ho,by simp,⟨rfl,hk,trivial⟩⟩,.inl trivial⟩
set_option maxHeartbeats 8000000 in
theorem yv4 {code : List Int} (hc : CodeOK code) : zg2 56 [] 10000 QG code:=fun at_ seed h1 h2 h3 => by
 refine CtrR.ofO (n:=192) (rs:=[.cell 2 27]) Tryz.func56 rfl rfl Tryz.ntmps56 rfl rfl (by kernel_rfl) Tryz.checked.mixed ?_; intro u
 refine Ok.endsW ?_
 refine Ok.seq (Ok.go ?_)
 simp (disch:=first | omega | decide +kernel) only [curO,curB,D.bytes,go_sem,Qa,Qb,Qc,Qd,Qe,↓reduceIte,reduceCtorEq,Qf,Qg,Qh]
 refine Ok.seq (Ok.go ?_)
 simp (disch:=first | omega | decide +kernel) only [curO,curB,D.bytes,go_sem,Qa,Qb,Qc,Qd,Qe,↓reduceIte,reduceCtorEq,Qf,Qg,Qh]
 (repeat' (first | ((first | (refine xa0 ?_ ?_<;>intro q'<;>(have h':=q')<;>(try simp only [zz] at h')<;>try (exfalso; omega)) | (have q':=trivial; first | refine hE _ _ xa5 ?_ | refine hE _ _ xa2 ?_))<;>(try simp (disch:=first | omega | decide +kernel) only [q',go_sem,Qa,Qb,Qc,Qd,Qe,↓reduceIte,reduceCtorEq,Qf,Qg,Qh])<;>clear q') | (with_reducible first | refine And.intro ?_ ?_ | omega) | exact xa6 | (refine xa1 ?_; omega) | (refine za9 ⟨?_,?_⟩) | (simp only [go_sem,Qc,Qb,zb1,zb2,forall_eq]; done)))
 refine Ok.seqF (gaS u code) (fun a => gaC at_ 4000 a∧1<=a.n∧a.n<=8∧a.es.length<=10) ?_ ?_
 . rintro ⟨n,es,cs,t,s⟩ ⟨⟨hn,he,hcl,ht,hs⟩,hn2,hn3,he2⟩
   dsimp only at hn he hcl ht hs hn2 hn3 he2 ⊢
   refine Ok.seqF (gaS u code) (fun a => gaC at_ 8000 a) ?_ ?_
   . rintro ⟨n,es,cs,t,s⟩ ⟨hn,he,hcl,ht,hs⟩
     dsimp only at hn he hcl ht hs ⊢
     refine Ok.go ?_
     simp (disch:=first | omega | decide +kernel) only [go_sem,Qa,Qb,Qc,Qd,Qe,↓reduceIte,reduceCtorEq,Qf,Qg,Qh]
     (repeat' (first | ((first | (refine xa0 ?_ ?_<;>intro q'<;>(have h':=q')<;>(try simp only [zz] at h')<;>try (exfalso; omega)) | (have q':=trivial; first | refine hE _ _ xa5 ?_ | refine hE _ _ xa2 ?_))<;>(try simp (disch:=first | omega | decide +kernel) only [q',go_sem,Qa,Qb,Qc,Qd,Qe,↓reduceIte,reduceCtorEq,Qf,Qg,Qh])<;>clear q') | (with_reducible first | refine And.intro ?_ ?_ | omega) | exact xa6 | (refine xa1 ?_; omega) | (refine za9 ⟨?_,?_⟩) | (simp only [go_sem,Qc,Qb,zb1,zb2,forall_eq]; done)))
     refine zu9 [900000001,900000002] ?_
     exact retR_drawG (code:=code) (at_:=at_) (k:=10000) (Q:=QG) rfl rfl (by simp only [go_sem]) (by simp only [go_sem,List.length_cons,List.length_nil]) rfl (by simp only [go_sem]) rfl rfl (by omega) (by omega) (by omega) (by omega) ⟨⟨n,es,cs⟩,rfl,by dsimp only; omega,by dsimp only; omega⟩
   have d24:=xm5 hc 24 (by omega)
   have dC:=xm5 hc (cs.length : Nat) (by omega)
   have dE:=xm5 hc (es.length : Nat) (by omega)
   have d9:=xm5 hc 9 (by omega)
   have o2:=zq8 hc 2 (by omega)
   have a4:=yr4 hc [0,9,n + 1,-1] (-1) 10 (by simp) (by simp; omega)
   have a2:=yr3 hc [-1,2] (-1) 2 (by simp) (by simp)
   have aE:=yr3 hc [-1,0,1,4611686018427387904] (-1) 4611686018427387904 (by simp) (by simp)
   have aF:=yr3 hc [0,1,9] 0 9 (by simp) (by simp)
   simp only [D.ints,List.map_cons,List.map_nil] at a4 a2 aE aF
   refine Ok.seq (Ok.go ?_)
   simp (disch:=first | omega | decide +kernel) only [go_sem,Qa,Qb,Qc,Qd,Qe,↓reduceIte,reduceCtorEq,Qf,Qg,Qh]
   (repeat' (first | ((first | (refine xa0 ?_ ?_<;>intro q'<;>(have h':=q')<;>(try simp only [zz] at h')<;>try (exfalso; omega)) | (have q':=trivial; first | (refine xc5 _ (d24) ⟨.inl rfl,.inl rfl,trivial⟩ rfl (by simp [dstB]) (by omega) (by omega) (by omega) ?_; rintro _ ata sda hata1 hata2 hsda1 hsda2 ⟨xa,rfl,hxa⟩) | refine hE _ _ xa5 ?_ | refine hE _ _ xa2 ?_))<;>(try simp (disch:=first | omega | decide +kernel) only [q',curO,curB,D.bytes,go_sem,Qa,Qb,Qc,Qd,Qe,↓reduceIte,reduceCtorEq,Qf,Qg,Qh])<;>clear q') | (with_reducible first | refine And.intro ?_ ?_ | omega) | exact xa6 | (refine xa1 ?_; omega) | (refine za9 ⟨?_,?_⟩) | (simp only [go_sem,Qc,Qb,zb1,zb2,forall_eq]; done)))
   by_cases hx0 : xa=0
   . subst hx0
     refine Ok.go ?_
     simp (disch:=first | omega | decide +kernel) only [go_sem,Qa,Qb,Qc,Qd,Qe,↓reduceIte,reduceCtorEq,Qf,Qg,Qh]
     (repeat' (first | ((first | (refine xa0 ?_ ?_<;>intro q'<;>(have h':=q')<;>(try simp only [zz] at h')<;>try (exfalso; omega)) | (have q':=trivial; first | (refine yb3 _ _ (a4) ⟨.inl rfl,.inl rfl,trivial⟩ rfl rfl (by decide) (by simp [dstB]) (by omega) (by omega) (by omega) ?_; rintro _ at1 sd1 hat1 hat2 hsd1 hsd2 ⟨x1,rfl,hx1⟩) | refine hE _ _ xa5 ?_ | refine hE _ _ xa2 ?_))<;>(try simp (disch:=first | omega | decide +kernel) only [q',curO,curB,D.bytes,go_sem,Qa,Qb,Qc,Qd,Qe,↓reduceIte,reduceCtorEq,Qf,Qg,Qh])<;>clear q') | (with_reducible first | refine And.intro ?_ ?_ | omega) | exact xa6 | (refine xa1 ?_; omega) | (refine za9 ⟨?_,?_⟩) | (simp only [go_sem,Qc,Qb,zb1,zb2,forall_eq]; done)))
     refine ⟨⟨x1,es,cs,at1,sd1⟩,⟨by dsimp only; omega,by dsimp only; omega,by dsimp only; omega,by dsimp only; omega,by dsimp only; omega⟩,(by refine Wk.auto ?_ ?_<;>simp [xb1,lk,killL,St.kill,xb4,xb6,AV.has,AV.hasL,AO.wipe,List.map_set,xc2,insL,xc4,ins,])⟩
   by_cases hx1 : xa=1
   . subst hx1
     refine Ok.block (Ok.seq (Ok.go ?_))
     simp (disch:=first | omega | decide +kernel) only [go_sem,Qa,Qb,Qc,Qd,Qe,↓reduceIte,reduceCtorEq,Qf,Qg,Qh]
     refine Ok.condF2 rfl ?_
     refine Ok.seq (Ok.go ?_)
     simp (disch:=first | omega | decide +kernel) only [go_sem,Qa,Qb,Qc,Qd,Qe,↓reduceIte,reduceCtorEq,Qf,Qg,Qh]
     refine Ok.condT2 rfl ?_
     refine Ok.reg8 [true,true,true,true,true,true,false,true,true,false,false,false] (by decide +kernel) ?_
     simp (disch:=first | omega | decide +kernel) only [List.length_map,go_sem,Qa,Qb,Qc,Qd,Qe,↓reduceIte,reduceCtorEq,Qf,Qg,Qh]
     (repeat' (first | ((first | (refine xa0 ?_ ?_<;>intro q'<;>(have h':=q')<;>(try simp only [zz] at h')<;>try (exfalso; omega)) | (have q':=trivial; first | (refine xc5 _ (dC) ⟨.inl rfl,.inl rfl,trivial⟩ rfl (by simp [dstB]) (by omega) (by omega) (by omega) ?_; rintro _ atb sdb hatb1 hatb2 hsdb1 hsdb2 ⟨xb,rfl,hxb⟩) | (refine xc5 _ (a2) ⟨.inl rfl,.inl rfl,trivial⟩ rfl (by simp [dstB]) (by omega) (by omega) (by omega) ?_; rintro _ atc sdc hatc1 hatc2 hsdc1 hsdc2 ⟨xc,rfl,hxc⟩) | refine hE _ _ xa5 ?_ | refine hE _ _ xa2 ?_))<;>(try simp (disch:=first | omega | decide +kernel) only [q',curO,curB,D.bytes,List.length_map,go_sem,Qa,Qb,Qc,Qd,Qe,↓reduceIte,reduceCtorEq,Qf,Qg,Qh])<;>clear q') | (with_reducible first | refine And.intro ?_ ?_ | omega) | exact xa6 | (refine xa1 ?_; omega) | (refine za9 ⟨?_,?_⟩) | (simp only [go_sem,Qc,Qb,zb1,zb2,forall_eq]; done)))
     refine ⟨⟨n,es,cs.set xb.toNat xc,atc,sdc⟩,⟨by dsimp only; omega,by dsimp only; omega,by dsimp only; rw [List.length_set]; omega,by dsimp only; omega,by dsimp only; omega⟩,(by refine Wk.auto ?_ ?_<;>simp [xb1,lk,killL,St.kill,xb4,xb6,AV.has,AV.hasL,AO.wipe,List.map_set,xc2,insL,xc4,ins,List.map_set])⟩
   by_cases hx2 : xa=2
   . subst hx2
     refine Ok.block (Ok.seq (Ok.go ?_))
     simp (disch:=first | omega | decide +kernel) only [go_sem,Qa,Qb,Qc,Qd,Qe,↓reduceIte,reduceCtorEq,Qf,Qg,Qh]
     refine Ok.condF2 rfl ?_
     refine Ok.seq (Ok.go ?_)
     simp (disch:=first | omega | decide +kernel) only [go_sem,Qa,Qb,Qc,Qd,Qe,↓reduceIte,reduceCtorEq,Qf,Qg,Qh]
     refine Ok.condF2 rfl ?_
     refine Ok.seq (Ok.go ?_)
     simp (disch:=first | omega | decide +kernel) only [go_sem,Qa,Qb,Qc,Qd,Qe,↓reduceIte,reduceCtorEq,Qf,Qg,Qh]
     refine Ok.condT2 rfl ?_
     refine Ok.seq (Ok.go ?_)
     simp (disch:=first | omega | decide +kernel) only [List.length_map,go_sem,Qa,Qb,Qc,Qd,Qe,↓reduceIte,reduceCtorEq,Qf,Qg,Qh]
     by_cases he0 : (0 : Int) < (es.length : Nat)
     . rw [decide_eq_true he0]
       refine Ok.condT2 rfl ?_
       refine Ok.reg8 [true,true,true,true,true,true,false,true,true,false,true,true,false,false,false,false] (by decide +kernel) ?_
       simp (disch:=first | omega | decide +kernel) only [List.length_map,go_sem,Qa,Qb,Qc,Qd,Qe,↓reduceIte,reduceCtorEq,Qf,Qg,Qh]
       (repeat' (first | ((first | (refine xa0 ?_ ?_<;>intro q'<;>(have h':=q')<;>(try simp only [zz] at h')<;>try (exfalso; omega)) | (have q':=trivial; first | (refine xc5 _ (dE) ⟨.inl rfl,.inl rfl,trivial⟩ rfl (by simp [dstB]) (by omega) (by omega) (by omega) ?_; rintro _ atb sdb hatb1 hatb2 hsdb1 hsdb2 ⟨xb,rfl,hxb⟩) | (refine xc5 _ (aE) ⟨.inl rfl,.inl rfl,trivial⟩ rfl (by simp [dstB]) (by omega) (by omega) (by omega) ?_; rintro _ atc sdc hatc1 hatc2 hsdc1 hsdc2 ⟨xc,rfl,hxc⟩) | (refine xc5 _ (aF) ⟨.inl rfl,.inl rfl,trivial⟩ rfl (by simp [dstB]) (by omega) (by omega) (by omega) ?_; rintro _ atd sdd hatd1 hatd2 hsdd1 hsdd2 ⟨xd,rfl,hxd⟩) | refine hE _ _ xa5 ?_ | refine hE _ _ xa2 ?_))<;>(try simp (disch:=first | omega | decide +kernel) only [q',curO,curB,D.bytes,List.length_map,go_sem,Qa,Qb,Qc,Qd,Qe,↓reduceIte,reduceCtorEq,Qf,Qg,Qh])<;>clear q') | (with_reducible first | refine And.intro ?_ ?_ | omega) | exact xa6 | (refine xa1 ?_; omega) | (refine za9 ⟨?_,?_⟩) | (simp only [go_sem,Qc,Qb,zb1,zb2,forall_eq]; done)))
       all_goals (first | exact okE2 _ _ | skip)
       refine ⟨⟨n,es.set xb.toNat (xc,xd),cs,atd,sdd⟩,⟨by dsimp only; omega,by dsimp only; rw [List.length_set]; omega,by dsimp only; omega,by dsimp only; omega,by dsimp only; omega⟩,(by refine Wk.auto ?_ ?_<;>simp [xb1,lk,killL,St.kill,xb4,xb6,AV.has,AV.hasL,AO.wipe,List.map_set,xc2,insL,xc4,ins,List.map_set,D.ed])⟩
     . rw [decide_eq_false he0]
       refine Ok.condF2 rfl ?_
       refine Ok.go ?_
       simp (disch:=first | omega | decide +kernel) only [go_sem,Qa,Qb,Qc,Qd,Qe,↓reduceIte,reduceCtorEq,Qf,Qg,Qh]
       refine ⟨⟨n,es,cs,ata,sda⟩,⟨by dsimp only; omega,by dsimp only; omega,by dsimp only; omega,by dsimp only; omega,by dsimp only; omega⟩,(by refine Wk.auto ?_ ?_<;>simp [xb1,lk,killL,St.kill,xb4,xb6,AV.has,AV.hasL,AO.wipe,List.map_set,xc2,insL,xc4,ins,])⟩
   by_cases hx3 : xa=3
   . subst hx3
     refine Ok.block (Ok.seq (Ok.go ?_))
     simp (disch:=first | omega | decide +kernel) only [go_sem,Qa,Qb,Qc,Qd,Qe,↓reduceIte,reduceCtorEq,Qf,Qg,Qh]
     refine Ok.condF2 rfl ?_
     refine Ok.seq (Ok.go ?_)
     simp (disch:=first | omega | decide +kernel) only [go_sem,Qa,Qb,Qc,Qd,Qe,↓reduceIte,reduceCtorEq,Qf,Qg,Qh]
     refine Ok.condF2 rfl ?_
     refine Ok.seq (Ok.go ?_)
     simp (disch:=first | omega | decide +kernel) only [go_sem,Qa,Qb,Qc,Qd,Qe,↓reduceIte,reduceCtorEq,Qf,Qg,Qh]
     refine Ok.condF2 rfl ?_
     refine Ok.seq (Ok.go ?_)
     simp (disch:=first | omega | decide +kernel) only [go_sem,Qa,Qb,Qc,Qd,Qe,↓reduceIte,reduceCtorEq,Qf,Qg,Qh]
     refine Ok.condT2 rfl ?_
     refine Ok.seq (Ok.go ?_)
     simp (disch:=first | omega | decide +kernel) only [go_sem,Qa,Qb,Qc,Qd,Qe,↓reduceIte,reduceCtorEq,Qf,Qg,Qh]
     (repeat' (first | ((first | (refine xa0 ?_ ?_<;>intro q'<;>(have h':=q')<;>(try simp only [zz] at h')<;>try (exfalso; omega)) | (have q':=trivial; first | (refine xc5 _ (d9) ⟨.inl rfl,.inl rfl,trivial⟩ rfl (by simp [dstB]) (by omega) (by omega) (by omega) ?_; rintro _ atb sdb hatb1 hatb2 hsdb1 hsdb2 ⟨xb,rfl,hxb⟩) | refine hE _ _ xa5 ?_ | refine hE _ _ xa2 ?_))<;>(try simp (disch:=first | omega | decide +kernel) only [q',curO,curB,D.bytes,go_sem,Qa,Qb,Qc,Qd,Qe,↓reduceIte,reduceCtorEq,Qf,Qg,Qh])<;>clear q') | (with_reducible first | refine And.intro ?_ ?_ | omega) | exact xa6 | (refine xa1 ?_; omega) | (refine za9 ⟨?_,?_⟩) | (simp only [go_sem,Qc,Qb,zb1,zb2,forall_eq]; done)))
     refine Ok.block ?_
     refine Ok.loopNO [191,190,189,188,187,186,185,184,183,182,181,180,179,178,177,176,175,174,173,172,171,170,169,168,167,166,165,164,163,162,161,160,159,158,157,156,155,154,153,152,151,150,149,148,147,146,145,144,143,142,141,140,139,138,137,136,135,134,133,132,131,130,129,128,127,126,125,124,123,122,121,120,119,118,117,116,115,114,113,112,111,110,109,108,107,106,105,104,103,102,101,100,99,98,97,96,95,94,93,92,91,90,89,88,87,86,85,84,83,82,81,80,79,78,77,76,75,74,73,72,71,70,69,68,67,66,65,64,63,62,61,60,59,58,57,56,55,54,53,52,51,50,49,48,47,46,45,44,43,42,41,40,39,38,37,36,35,34,33,32,31,30,29,28,27,26,25,24,23,22,21,20,19,18,17,16,15,14,13,12,11,10,9,8,7,6,5,4,1] (fun i (a : GA) => [(8,.d (.int .i64 a.n))]) (fun _ (a : GA) => [(900000001,edO a.es)]) (5 + xb).toNat
      (fun i a => a.n=5 + xb - i∧a.es.length<=10 + i) ⟨5 + xb,es,[],0,0⟩ ⟨by dsimp only; omega,by dsimp only; omega⟩ (Wk.kk) ?_
     rintro R2 i2 ⟨m,E,_,_,_⟩ hN2 hE2 hi2 ⟨hm,hE⟩
     dsimp only at hm hE ⊢
     by_cases hcn : (0 : Int) < (E.length : Nat)∧0 < m
     . have hE0:=xg3 (xs:=E) (i:=0) (by omega)
       have hE1 : (el (List.map D.ed E) 0).cells.length=2:=by rw [hE0]; rfl
       generalize (E.getD 0 (0,0)).1=p at *
       generalize (E.getD 0 (0,0)).2=q at *
       refine Ok.seq (Ok.go ?_)
       simp (disch:=first | omega | decide +kernel) only [List.length_map,go_sem,Qa,Qb,Qc,Qd,Qe,↓reduceIte,reduceCtorEq,Qf,Qg,Qh]
       (repeat' (first | ((first | (refine xa0 ?_ ?_<;>intro q'<;>(have h':=q')<;>(try simp only [zz] at h')<;>try (exfalso; omega)) | (have q':=trivial; first | refine hE _ _ xa5 ?_ | refine hE _ _ xa2 ?_))<;>(try simp (disch:=first | omega | decide +kernel) only [q',List.length_map,go_sem,Qa,Qb,Qc,Qd,Qe,↓reduceIte,reduceCtorEq,Qf,Qg,Qh])<;>clear q') | (with_reducible first | refine And.intro ?_ ?_ | omega) | exact xa6 | (refine xa1 ?_; omega) | (refine za9 ⟨?_,?_⟩) | (simp only [go_sem,Qc,Qb,zb1,zb2,forall_eq]; done)))
       refine Ok.seq (Ok.block (Ok.reg8 [true,true,true,true,true,true,false,false,true,false] (by decide +kernel) ?_))
       simp (disch:=first | omega | decide +kernel) only [hE0,List.length_map,go_sem,Qa,Qb,Qc,Qd,Qe,↓reduceIte,reduceCtorEq,Qf,Qg,Qh]
       (repeat' (first | ((first | (refine xa0 ?_ ?_<;>intro q'<;>(have h':=q')<;>(try simp only [zz] at h')<;>try (exfalso; omega)) | (have q':=trivial; first | refine hE _ _ xa5 ?_ | refine hE _ _ xa2 ?_))<;>(try simp (disch:=first | omega | decide +kernel) only [q',hE0,List.length_map,go_sem,Qa,Qb,Qc,Qd,Qe,↓reduceIte,reduceCtorEq,Qf,Qg,Qh])<;>clear q') | (with_reducible first | refine And.intro ?_ ?_ | omega) | exact xa6 | (refine xa1 ?_; omega) | (refine za9 ⟨?_,?_⟩) | (simp only [go_sem,Qc,Qb,zb1,zb2,forall_eq]; done)))
       all_goals (first | exact okE2 _ _ | exact hE1 | skip)
       refine Ok.go ?_
       simp (disch:=first | omega | decide +kernel) only [go_sem,Qa,Qb,Qc,Qd,Qe,↓reduceIte,reduceCtorEq,Qf,Qg,Qh]
       (repeat' (first | ((first | (refine xa0 ?_ ?_<;>intro q'<;>(have h':=q')<;>(try simp only [zz] at h')<;>try (exfalso; omega)) | (have q':=trivial; first | refine hE _ _ xa5 ?_ | refine hE _ _ xa2 ?_))<;>(try simp (disch:=first | omega | decide +kernel) only [q',go_sem,Qa,Qb,Qc,Qd,Qe,↓reduceIte,reduceCtorEq,Qf,Qg,Qh])<;>clear q') | (with_reducible first | refine And.intro ?_ ?_ | omega) | exact xa6 | (refine xa1 ?_; omega) | (refine za9 ⟨?_,?_⟩) | (simp only [go_sem,Qc,Qb,zb1,zb2,forall_eq]; done)))
       refine hN2 ⟨m - 1,E++[(p,q)],[],0,0⟩ _ (by omega) ⟨by dsimp only; omega,by dsimp only; rw [List.length_append,List.length_singleton]; omega⟩ (by refine Wk.auto ?_ ?_<;>simp [xb1,lk,killL,St.kill,xb4,xb6,AV.has,AV.hasL,AO.wipe,List.map_set,xc2,insL,xc4,ins,List.map_append,List.map_cons,List.map_nil,D.ed])
     . refine Ok.go ?_
       simp (disch:=first | omega | decide +kernel) only [List.length_map,go_sem,Qa,Qb,Qc,Qd,Qe,↓reduceIte,reduceCtorEq,Qf,Qg,Qh]
       (repeat' (first | ((first | (refine xa0 ?_ ?_<;>intro q'<;>(have h':=q')<;>(try simp only [zz] at h')<;>try (exfalso; omega)) | (have q':=trivial; first | refine hE _ _ xa5 ?_ | refine hE _ _ xa2 ?_))<;>(try simp (disch:=first | omega | decide +kernel) only [q',List.length_map,go_sem,Qa,Qb,Qc,Qd,Qe,↓reduceIte,reduceCtorEq,Qf,Qg,Qh])<;>clear q') | (with_reducible first | refine And.intro ?_ ?_ | omega) | exact xa6 | (refine xa1 ?_; omega) | (refine za9 ⟨?_,?_⟩) | (simp only [go_sem,Qc,Qb,zb1,zb2,forall_eq]; done)))
       all_goals refine hE2 _ _ xa2 ?_
       all_goals simp (disch:=first | omega | decide +kernel) only [go_sem,Qa,Qb,Qc,Qd,Qe,↓reduceIte,reduceCtorEq,Qf,Qg,Qh]
       all_goals (refine ⟨⟨n,E,cs,atb,sdb⟩,⟨by dsimp only; omega,by dsimp only; omega,by dsimp only; omega,by dsimp only; omega,by dsimp only; omega⟩,(by refine Wk.auto ?_ ?_<;>simp [xb1,lk,killL,St.kill,xb4,xb6,AV.has,AV.hasL,AO.wipe,List.map_set,xc2,insL,xc4,ins,])⟩)
   by_cases hx4 : xa=4
   . subst hx4
     refine Ok.go ?_
     simp (disch:=first | omega | decide +kernel) only [go_sem,Qa,Qb,Qc,Qd,Qe,↓reduceIte,reduceCtorEq,Qf,Qg,Qh]
     (repeat' (first | ((first | (refine xa0 ?_ ?_<;>intro q'<;>(have h':=q')<;>(try simp only [zz] at h')<;>try (exfalso; omega)) | (have q':=trivial; first | (refine xc5 _ (o2) ⟨.inl rfl,.inl rfl,trivial⟩ rfl (by simp [dstB]) (by omega) (by omega) (by omega) ?_; rintro _ atb sdb hatb1 hatb2 hsdb1 hsdb2 ⟨xb,rfl,hxb⟩) | refine hE _ _ xa5 ?_ | refine hE _ _ xa2 ?_))<;>(try simp (disch:=first | omega | decide +kernel) only [q',curO,curB,D.bytes,go_sem,Qa,Qb,Qc,Qd,Qe,↓reduceIte,reduceCtorEq,Qf,Qg,Qh])<;>clear q') | (with_reducible first | refine And.intro ?_ ?_ | omega) | exact xa6 | (refine xa1 ?_; omega) | (refine za9 ⟨?_,?_⟩) | (simp only [go_sem,Qc,Qb,zb1,zb2,forall_eq]; done)))
     refine xp0 [] [0,17400001,17400002] [17400001,17400002] (zd3 4 (by omega) xb) ⟨.inl rfl,.inl rfl,trivial⟩ trivial (by simp [xs9,xh7]) (by simp [dstB]) ?_
     rintro _ _ ⟨n',es',cs',rfl,rfl,hnb,heb,hcb⟩
     refine ⟨by simp [xj9,xh7,nth],?_⟩
     simp (disch:=first | omega | decide +kernel) only [List.length_map,go_sem,Qa,Qb,Qc,Qd,Qe,↓reduceIte,reduceCtorEq,Qf,Qg,Qh]
     (repeat' (first | ((first | (refine xa0 ?_ ?_<;>intro q'<;>(have h':=q')<;>(try simp only [zz] at h')<;>try (exfalso; omega)) | (have q':=trivial; first | (refine xc5 _ (o2) ⟨.inl rfl,.inl rfl,trivial⟩ rfl (by simp [dstB]) (by omega) (by omega) (by omega) ?_; rintro _ atc sdc hatc1 hatc2 hsdc1 hsdc2 ⟨xc,rfl,hxc⟩) | refine hE _ _ xa5 ?_ | refine hE _ _ xa2 ?_))<;>(try simp (disch:=first | omega | decide +kernel) only [q',curO,curB,D.bytes,List.length_map,go_sem,Qa,Qb,Qc,Qd,Qe,↓reduceIte,reduceCtorEq,Qf,Qg,Qh])<;>clear q') | (with_reducible first | refine And.intro ?_ ?_ | omega) | exact xa6 | (refine xa1 ?_; omega) | (refine za9 ⟨?_,?_⟩) | (simp only [go_sem,Qc,Qb,zb1,zb2,forall_eq]; done)))
     all_goals (first | exact okE2 _ _ | skip)
     . refine ⟨⟨n',es'++[(0,3),(4,7)]++[(1,6)],cs',atc,sdc⟩,⟨by dsimp only; omega,by dsimp only; simp only [List.length_append,List.length_cons,List.length_nil]; omega,by dsimp only; omega,by dsimp only; omega,by dsimp only; omega⟩,?_⟩
       exact ((Wk.swp 900000001 17400001).trans ((Wk.swp 900000002 17400002).trans (by refine Wk.auto ?_ ?_<;>simp [xb1,lk,killL,St.kill,xb4,xb6,AV.has,AV.hasL,AO.wipe,List.map_set,xc2,insL,xc4,ins,swpS,swpO,swp,AV.ren,AV.renL,AO.ren,List.map_append,List.map_cons,List.map_nil,D.ed])))
     . refine ⟨⟨n',es'++[(0,3),(4,7)],cs',atc,sdc⟩,⟨by dsimp only; omega,by dsimp only; simp only [List.length_append,List.length_cons,List.length_nil]; omega,by dsimp only; omega,by dsimp only; omega,by dsimp only; omega⟩,?_⟩
       exact ((Wk.swp 900000001 17400001).trans ((Wk.swp 900000002 17400002).trans (by refine Wk.auto ?_ ?_<;>simp [xb1,lk,killL,St.kill,xb4,xb6,AV.has,AV.hasL,AO.wipe,List.map_set,xc2,insL,xc4,ins,swpS,swpO,swp,AV.ren,AV.renL,AO.ren,List.map_append,List.map_cons,List.map_nil,D.ed])))
   have e0 : (xa == 0)=false:=by simpa using hx0
   have e1 : (xa == 1)=false:=by simpa using hx1
   have e2 : (xa == 2)=false:=by simpa using hx2
   have e3 : (xa == 3)=false:=by simpa using hx3
   have e4 : (xa == 4)=false:=by simpa using hx4
   refine Ok.go ?_
   simp (disch:=first | omega | decide +kernel) only [e0,e1,e2,e3,e4,go_sem,Qa,Qb,Qc,Qd,Qe,↓reduceIte,reduceCtorEq,Qf,Qg,Qh]
   (repeat' (first | ((first | (refine xa0 ?_ ?_<;>intro q'<;>(have h':=q')<;>(try simp only [zz] at h')<;>try (exfalso; omega)) | (have q':=trivial; first | refine hE _ _ xa5 ?_ | refine hE _ _ xa2 ?_))<;>(try simp (disch:=first | omega | decide +kernel) only [q',e0,e1,e2,e3,e4,go_sem,Qa,Qb,Qc,Qd,Qe,↓reduceIte,reduceCtorEq,Qf,Qg,Qh])<;>clear q') | (with_reducible first | refine And.intro ?_ ?_ | omega) | exact xa6 | (refine xa1 ?_; omega) | (refine za9 ⟨?_,?_⟩) | (simp only [go_sem,Qc,Qb,zb1,zb2,forall_eq]; done)))
   refine ⟨⟨n,es,cs,ata,sda⟩,⟨by dsimp only; omega,by dsimp only; omega,by dsimp only; omega,by dsimp only; omega,by dsimp only; omega⟩,(by refine Wk.auto ?_ ?_<;>simp [xb1,lk,killL,St.kill,xb4,xb6,AV.has,AV.hasL,AO.wipe,List.map_set,xc2,insL,xc4,ins,])⟩
 . have d4:=xm5 hc 4 (by omega)
   have d3:=xm5 hc 3 (by omega)
   have d8:=xm5 hc 8 (by omega)
   have d2:=xm5 hc 2 (by omega)
   have o2:=zq8 hc 2 (by omega)
   have a8:=yr4 hc [1,2,3,4,4,5,6,8] 1 8 (by simp) (by simp)
   simp only [List.map_cons,List.map_nil] at a8
   refine Ok.seq (Ok.go ?_)
   simp (disch:=first | omega | decide +kernel) only [curO,curB,D.bytes,go_sem,Qa,Qb,Qc,Qd,Qe,↓reduceIte,reduceCtorEq,Qf,Qg,Qh]
   (repeat' (first | ((first | (refine xa0 ?_ ?_<;>intro q'<;>(have h':=q')<;>(try simp only [zz] at h')<;>try (exfalso; omega)) | (have q':=trivial; first | (refine xc5 _ (d4) ⟨.inl rfl,.inl rfl,trivial⟩ rfl (by simp [dstB]) (by omega) (by omega) (by omega) ?_; rintro _ ata sda hata1 hata2 hsda1 hsda2 ⟨xa,rfl,hxa⟩) | refine hE _ _ xa5 ?_ | refine hE _ _ xa2 ?_))<;>(try simp (disch:=first | omega | decide +kernel) only [q',curO,curB,D.bytes,go_sem,Qa,Qb,Qc,Qd,Qe,↓reduceIte,reduceCtorEq,Qf,Qg,Qh])<;>clear q') | (with_reducible first | refine And.intro ?_ ?_ | omega) | exact xa6 | (refine xa1 ?_; omega) | (refine za9 ⟨?_,?_⟩) | (simp only [go_sem,Qc,Qb,zb1,zb2,forall_eq]; done)))
   clear d4
   have d4:=xm5 hc 4 (by omega)
   by_cases hx0 : xa=0
   . subst hx0
     refine Ok.go ?_
     simp (disch:=first | omega | decide +kernel) only [go_sem,Qa,Qb,Qc,Qd,Qe,↓reduceIte,reduceCtorEq,Qf,Qg,Qh]
     (repeat' (first | ((first | (refine xa0 ?_ ?_<;>intro q'<;>(have h':=q')<;>(try simp only [zz] at h')<;>try (exfalso; omega)) | (have q':=trivial; first | (refine xc5 _ (d4) ⟨.inl rfl,.inl rfl,trivial⟩ rfl (by simp [dstB]) (by omega) (by omega) (by omega) ?_; rintro _ atb sdb hatb1 hatb2 hsdb1 hsdb2 ⟨xb,rfl,hxb⟩) | (refine xc5 _ (o2) ⟨.inl rfl,.inl rfl,trivial⟩ rfl (by simp [dstB]) (by omega) (by omega) (by omega) ?_; rintro _ atc sdc hatc1 hatc2 hsdc1 hsdc2 ⟨xc,rfl,hxc⟩) | refine hE _ _ xa5 ?_ | refine hE _ _ xa2 ?_))<;>(try simp (disch:=first | omega | decide +kernel) only [q',curO,curB,D.bytes,go_sem,Qa,Qb,Qc,Qd,Qe,↓reduceIte,reduceCtorEq,Qf,Qg,Qh])<;>clear q') | (with_reducible first | refine And.intro ?_ ?_ | omega) | exact xa6 | (refine xa1 ?_; omega) | (refine za9 ⟨?_,?_⟩) | (simp only [go_sem,Qc,Qb,zb1,zb2,forall_eq]; done)))
     refine xp0 [] [0,8600001,8600002] [8600001,8600002] (cycle_ok (3 + xb) (by omega) xc) ⟨.inl rfl,.inl rfl,trivial⟩ trivial (by simp [xs9,xh7]) (by simp [dstB]) ?_
     rintro _ _ ⟨n,es,cs,rfl,rfl,hnb,heb,hcb⟩
     refine ⟨by simp [xj9,xh7,nth],?_⟩
     simp (disch:=first | omega | decide +kernel) only [go_sem,Qa,Qb,Qc,Qd,Qe,↓reduceIte,reduceCtorEq,Qf,Qg,Qh]
     (repeat' (first | ((first | (refine xa0 ?_ ?_<;>intro q'<;>(have h':=q')<;>(try simp only [zz] at h')<;>try (exfalso; omega)) | (have q':=trivial; first | refine hE _ _ xa5 ?_ | refine hE _ _ xa2 ?_))<;>(try simp (disch:=first | omega | decide +kernel) only [q',go_sem,Qa,Qb,Qc,Qd,Qe,↓reduceIte,reduceCtorEq,Qf,Qg,Qh])<;>clear q') | (with_reducible first | refine And.intro ?_ ?_ | omega) | exact xa6 | (refine xa1 ?_; omega) | (refine za9 ⟨?_,?_⟩) | (simp only [go_sem,Qc,Qb,zb1,zb2,forall_eq]; done)))
     all_goals (refine ⟨⟨n,es,cs,atc,sdc⟩,⟨⟨by dsimp only; omega,by dsimp only; omega,by dsimp only; omega,by dsimp only; omega,by dsimp only; omega⟩,by dsimp only; omega,by dsimp only; omega,by dsimp only; omega⟩,?_⟩)
     all_goals exact ((Wk.swp 900000001 8600001).trans ((Wk.swp 900000002 8600002).trans (by refine Wk.auto ?_ ?_<;>simp [xb1,lk,killL,St.kill,xb4,xb6,AV.has,AV.hasL,AO.wipe,List.map_set,xc2,insL,xc4,ins,swpS,swpO,swp,AV.ren,AV.renL,AO.ren])))
   by_cases hx1 : xa=1
   . subst hx1
     refine Ok.go ?_
     simp (disch:=first | omega | decide +kernel) only [go_sem,Qa,Qb,Qc,Qd,Qe,↓reduceIte,reduceCtorEq,Qf,Qg,Qh]
     (repeat' (first | ((first | (refine xa0 ?_ ?_<;>intro q'<;>(have h':=q')<;>(try simp only [zz] at h')<;>try (exfalso; omega)) | (have q':=trivial; first | (refine xc5 _ (d3) ⟨.inl rfl,.inl rfl,trivial⟩ rfl (by simp [dstB]) (by omega) (by omega) (by omega) ?_; rintro _ atb sdb hatb1 hatb2 hsdb1 hsdb2 ⟨xb,rfl,hxb⟩) | (refine xc5 _ (o2) ⟨.inl rfl,.inl rfl,trivial⟩ rfl (by simp [dstB]) (by omega) (by omega) (by omega) ?_; rintro _ atc sdc hatc1 hatc2 hsdc1 hsdc2 ⟨xc,rfl,hxc⟩) | refine hE _ _ xa5 ?_ | refine hE _ _ xa2 ?_))<;>(try simp (disch:=first | omega | decide +kernel) only [q',curO,curB,D.bytes,go_sem,Qa,Qb,Qc,Qd,Qe,↓reduceIte,reduceCtorEq,Qf,Qg,Qh])<;>clear q') | (with_reducible first | refine And.intro ?_ ?_ | omega) | exact xa6 | (refine xa1 ?_; omega) | (refine za9 ⟨?_,?_⟩) | (simp only [go_sem,Qc,Qb,zb1,zb2,forall_eq]; done)))
     refine xp0 [] [0,9700001,9700002] [9700001,9700002] (zd3 (2 + xb) (by omega) xc) ⟨.inl rfl,.inl rfl,trivial⟩ trivial (by simp [xs9,xh7]) (by simp [dstB]) ?_
     rintro _ _ ⟨n,es,cs,rfl,rfl,hnb,heb,hcb⟩
     refine ⟨by simp [xj9,xh7,nth],?_⟩
     simp (disch:=first | omega | decide +kernel) only [go_sem,Qa,Qb,Qc,Qd,Qe,↓reduceIte,reduceCtorEq,Qf,Qg,Qh]
     (repeat' (first | ((first | (refine xa0 ?_ ?_<;>intro q'<;>(have h':=q')<;>(try simp only [zz] at h')<;>try (exfalso; omega)) | (have q':=trivial; first | refine hE _ _ xa5 ?_ | refine hE _ _ xa2 ?_))<;>(try simp (disch:=first | omega | decide +kernel) only [q',go_sem,Qa,Qb,Qc,Qd,Qe,↓reduceIte,reduceCtorEq,Qf,Qg,Qh])<;>clear q') | (with_reducible first | refine And.intro ?_ ?_ | omega) | exact xa6 | (refine xa1 ?_; omega) | (refine za9 ⟨?_,?_⟩) | (simp only [go_sem,Qc,Qb,zb1,zb2,forall_eq]; done)))
     all_goals (refine ⟨⟨n,es,cs,atc,sdc⟩,⟨⟨by dsimp only; omega,by dsimp only; omega,by dsimp only; omega,by dsimp only; omega,by dsimp only; omega⟩,by dsimp only; omega,by dsimp only; omega,by dsimp only; omega⟩,?_⟩)
     all_goals exact ((Wk.swp 900000001 9700001).trans ((Wk.swp 900000002 9700002).trans (by refine Wk.auto ?_ ?_<;>simp [xb1,lk,killL,St.kill,xb4,xb6,AV.has,AV.hasL,AO.wipe,List.map_set,xc2,insL,xc4,ins,swpS,swpO,swp,AV.ren,AV.renL,AO.ren])))
   have e0 : (xa == 0)=false:=by simpa using hx0
   have e1 : (xa == 1)=false:=by simpa using hx1
   refine Ok.go ?_
   simp (disch:=first | omega | decide +kernel) only [e0,e1,go_sem,Qa,Qb,Qc,Qd,Qe,↓reduceIte,reduceCtorEq,Qf,Qg,Qh]
   (repeat' (first | ((first | (refine xa0 ?_ ?_<;>intro q'<;>(have h':=q')<;>(try simp only [zz] at h')<;>try (exfalso; omega)) | (have q':=trivial; first | (refine yb3 _ _ (a8) ⟨.inl rfl,.inl rfl,trivial⟩ rfl rfl (by decide) (by simp [dstB]) (by omega) (by omega) (by omega) ?_; rintro _ at1 sd1 hat1 hat2 hsd1 hsd2 ⟨x1,rfl,hx1⟩) | (refine xc5 _ (d8) ⟨.inl rfl,.inl rfl,trivial⟩ rfl (by simp [dstB]) (by omega) (by omega) (by omega) ?_; rintro _ atb sdb hatb1 hatb2 hsdb1 hsdb2 ⟨xb,rfl,hxb⟩) | refine hE _ _ xa5 ?_ | refine hE _ _ xa2 ?_))<;>(try simp (disch:=first | omega | decide +kernel) only [q',e0,e1,curO,curB,D.bytes,go_sem,Qa,Qb,Qc,Qd,Qe,↓reduceIte,reduceCtorEq,Qf,Qg,Qh])<;>clear q') | (with_reducible first | refine And.intro ?_ ?_ | omega) | exact xa6 | (refine xa1 ?_; omega) | (refine za9 ⟨?_,?_⟩) | (simp only [go_sem,Qc,Qb,zb1,zb2,forall_eq]; done)))
   clear d3 d4 d8 o2 a8 e0 e1 hx0
   refine Ok.weak (Wk.nilObj 900000001 3 1 rfl rfl (by simp) (by decide) (e:=65) (k:=2) (by decide)) ?_
   simp (disch:=first | omega | decide +kernel) only [setL,go_sem,Qa,Qb,Qc,Qd,Qe,↓reduceIte,reduceCtorEq,Qf,Qg,Qh]
   refine Ok.weak (Wk.nilObj 900000002 3 2 rfl rfl (by simp) (by decide) (e:=3) (k:=1) (by decide)) ?_
   simp (disch:=first | omega | decide +kernel) only [setL,go_sem,Qa,Qb,Qc,Qd,Qe,↓reduceIte,reduceCtorEq,Qf,Qg,Qh]
   have d5:=xm5 hc x1 (by omega)
   refine Ok.loopNO [191,190,189,188,187,186,185,184,183,182,181,180,179,178,177,176,175,174,173,172,171,170,169,168,167,166,165,164,163,162,161,160,159,158,157,156,155,154,153,152,151,150,149,148,147,146,145,144,143,142,141,140,139,138,137,136,135,134,133,132,131,130,129,128,127,126,125,124,123,122,121,120,119,118,117,116,115,114,113,112,111,110,109,108,107,106,105,104,103,102,101,100,99,98,97,96,95,94,93,92,91,90,89,88,87,86,85,84,83,82,81,80,79,78,77,76,75,74,73,72,71,70,69,68,67,66,65,64,63,62,61,60,59,58,57,56,55,54,53,52,51,50,49,48,47,46,45,44,43,42,41,40,39,38,37,36,35,34,33,32,31,30,29,28,27,26,25,24,23,22,21,20,19,18,17,16,15,14,13,12,11,10,9,8,7,6,5,4,1] (fun i (a : GA) => [(4,.d (.int .i64 a.n))]) (fun _ (a : GA) => [(900000001,edO a.es),(0,curB code a.t a.s)]) xb.toNat
    (fun i a => a.n=xb - i∧a.es.length<=i∧(atb<=a.t∧a.t<=atb + 4 * i)∧(0<=a.s∧a.s < 18446744073709551616)) ⟨xb,[],[],atb,sdb⟩ ⟨by dsimp only; omega,Nat.le_refl _,⟨Nat.le_refl _,Nat.le_refl _⟩,hsdb1,hsdb2⟩ (Wk.kk) ?_
   rintro R i ⟨n,L,cs0,t,s⟩ hN hE1 hi ⟨hn,hL,⟨ht1,ht2⟩,hs1,hs2⟩
   dsimp only at hn hL ht1 ht2 hs1 hs2 ⊢
   by_cases hcn : 0 < n∧1 < x1
   . have c27:=fun v => ye0 ⟨x1,L,[]⟩ v (by show L.length<=_; omega)
     simp only [D.chg,D.ints,List.map_nil] at c27
     have cL:=fun a b => yg3 a b
     have cM:=fun a b => zd5 a b
     refine Ok.seq (Ok.go ?_)
     simp (disch:=first | omega | decide +kernel) only [go_sem,Qa,Qb,Qc,Qd,Qe,↓reduceIte,reduceCtorEq,Qf,Qg,Qh]
     (repeat' (first | ((first | (refine xa0 ?_ ?_<;>intro q'<;>(have h':=q')<;>(try simp only [zz] at h')<;>try (exfalso; omega)) | (have q':=trivial; first | refine hE _ _ xa5 ?_ | refine hE _ _ xa2 ?_))<;>(try simp (disch:=first | omega | decide +kernel) only [q',go_sem,Qa,Qb,Qc,Qd,Qe,↓reduceIte,reduceCtorEq,Qf,Qg,Qh])<;>clear q') | (with_reducible first | refine And.intro ?_ ?_ | omega) | exact xa6 | (refine xa1 ?_; omega) | (refine za9 ⟨?_,?_⟩) | (simp only [go_sem,Qc,Qb,zb1,zb2,forall_eq]; done)))
     refine Ok.seq (Ok.block (Ok.seq (Ok.reg8 [true,true,true,false,true,true,true,false,false,false] (by decide +kernel) ?_)))
     simp (disch:=first | omega | decide +kernel) only [go_sem,Qa,Qb,Qc,Qd,Qe,↓reduceIte,reduceCtorEq,Qf,Qg,Qh]
     refine xc5 _ d5 ⟨.inl rfl,.inl rfl,trivial⟩ rfl (by simp [dstB]) (by omega) (by omega) (by omega) ?_
     rintro _ atc sdc hatc1 hatc2 hsdc1 hsdc2 ⟨xc,rfl,hxc⟩
     simp (disch:=first | omega | decide +kernel) only [curO,curB,D.bytes,go_sem,Qa,Qb,Qc,Qd,Qe,↓reduceIte,reduceCtorEq,Qf,Qg,Qh]
     refine xc5 _ d5 ⟨.inl rfl,.inl rfl,trivial⟩ rfl (by simp [dstB]) (by omega) (by omega) (by omega) ?_
     rintro _ atd sdd hatd1 hatd2 hsdd1 hsdd2 ⟨xd,rfl,hxd⟩
     simp (disch:=first | omega | decide +kernel) only [curO,curB,D.bytes,go_sem,Qa,Qb,Qc,Qd,Qe,↓reduceIte,reduceCtorEq,Qf,Qg,Qh]
     (repeat' (first | ((first | (refine xa0 ?_ ?_<;>intro q'<;>(have h':=q')<;>(try simp only [zz] at h')<;>try (exfalso; omega)) | (have q':=trivial; first | refine hE _ _ xa5 ?_ | refine hE _ _ xa2 ?_))<;>(try simp (disch:=first | omega | decide +kernel) only [q',go_sem,Qa,Qb,Qc,Qd,Qe,↓reduceIte,reduceCtorEq,Qf,Qg,Qh])<;>clear q') | (with_reducible first | refine And.intro ?_ ?_ | omega) | exact xa6 | (refine xa1 ?_; omega) | (refine za9 ⟨?_,?_⟩) | (simp only [go_sem,Qc,Qb,zb1,zb2,forall_eq]; done)))
     clear d2 d5
     refine Ok.go ?_
     simp (disch:=first | omega | decide +kernel) only [go_sem,Qa,Qb,Qc,Qd,Qe,↓reduceIte,reduceCtorEq,Qf,Qg,Qh]
     (repeat' (first | ((first | (refine xa0 ?_ ?_<;>intro q'<;>(have h':=q')<;>(try simp only [zz] at h')<;>try (exfalso; omega)) | (have q':=trivial; first | refine xa3 (c27 _) rfl (by decide) ?_ | refine xa4 (c27 _) rfl ?_ | refine xa3 (cL _ _) rfl (by decide) ?_ | refine xa4 (cL _ _) rfl ?_ | refine xa3 (cM _ _) rfl (by decide) ?_ | refine xa4 (cM _ _) rfl ?_ | refine hE _ _ xa5 ?_ | refine hE _ _ xa2 ?_))<;>(try simp (disch:=first | omega | decide +kernel) only [q',List.length_map,go_sem,Qa,Qb,Qc,Qd,Qe,↓reduceIte,reduceCtorEq,Qf,Qg,Qh])<;>clear q') | (with_reducible first | refine And.intro ?_ ?_ | omega) | exact xa6 | (refine xa1 ?_; omega) | (refine za9 ⟨?_,?_⟩) | (simp only [go_sem,Qc,Qb,zb1,zb2,forall_eq]; done)))
     all_goals (first | exact okE2 _ _ | skip)
     . refine Ok.go ?_
       simp (disch:=first | omega | decide +kernel) only [go_sem,Qa,Qb,Qc,Qd,Qe,↓reduceIte,reduceCtorEq,Qf,Qg,Qh]
       (repeat' (first | ((first | (refine xa0 ?_ ?_<;>intro q'<;>(have h':=q')<;>(try simp only [zz] at h')<;>try (exfalso; omega)) | (have q':=trivial; first | refine hE _ _ xa5 ?_ | refine hE _ _ xa2 ?_))<;>(try simp (disch:=first | omega | decide +kernel) only [q',go_sem,Qa,Qb,Qc,Qd,Qe,↓reduceIte,reduceCtorEq,Qf,Qg,Qh])<;>clear q') | (with_reducible first | refine And.intro ?_ ?_ | omega) | exact xa6 | (refine xa1 ?_; omega) | (refine za9 ⟨?_,?_⟩) | (simp only [go_sem,Qc,Qb,zb1,zb2,forall_eq]; done)))
       refine hN ⟨n - 1,L++[(min xc xd,max xc xd)],cs0,atd,sdd⟩ _ (by omega) ⟨by dsimp only; omega,by dsimp only; rw [List.length_append,List.length_singleton]; omega,by dsimp only; omega,by dsimp only; omega⟩ (by refine Wk.auto ?_ ?_<;>simp [xb1,lk,killL,St.kill,xb4,xb6,AV.has,AV.hasL,AO.wipe,List.map_set,xc2,insL,xc4,ins,List.map_append,List.map_cons,List.map_nil,D.ed])
     all_goals (
      refine Ok.go ?_
      simp (disch:=first | omega | decide +kernel) only [go_sem,Qa,Qb,Qc,Qd,Qe,↓reduceIte,reduceCtorEq,Qf,Qg,Qh]
      (repeat' (first | ((first | (refine xa0 ?_ ?_<;>intro q'<;>(have h':=q')<;>(try simp only [zz] at h')<;>try (exfalso; omega)) | (have q':=trivial; first | refine hE _ _ xa5 ?_ | refine hE _ _ xa2 ?_))<;>(try simp (disch:=first | omega | decide +kernel) only [q',go_sem,Qa,Qb,Qc,Qd,Qe,↓reduceIte,reduceCtorEq,Qf,Qg,Qh])<;>clear q') | (with_reducible first | refine And.intro ?_ ?_ | omega) | exact xa6 | (refine xa1 ?_; omega) | (refine za9 ⟨?_,?_⟩) | (simp only [go_sem,Qc,Qb,zb1,zb2,forall_eq]; done)))
      refine hN ⟨n - 1,L,cs0,atd,sdd⟩ _ (by omega) ⟨by dsimp only; omega,by dsimp only; omega,by dsimp only; omega,by dsimp only; omega⟩ (by refine Wk.auto ?_ ?_<;>simp [xb1,lk,killL,St.kill,xb4,xb6,AV.has,AV.hasL,AO.wipe,List.map_set,xc2,insL,xc4,ins,]))
   . refine Ok.go ?_
     simp (disch:=first | omega | decide +kernel) only [go_sem,Qa,Qb,Qc,Qd,Qe,↓reduceIte,reduceCtorEq,Qf,Qg,Qh]
     (repeat' (first | ((first | (refine xa0 ?_ ?_<;>intro q'<;>(have h':=q')<;>(try simp only [zz] at h')<;>try (exfalso; omega)) | (have q':=trivial; first | refine hE _ _ xa5 ?_ | refine hE _ _ xa2 ?_))<;>(try simp (disch:=first | omega | decide +kernel) only [q',go_sem,Qa,Qb,Qc,Qd,Qe,↓reduceIte,reduceCtorEq,Qf,Qg,Qh])<;>clear q') | (with_reducible first | refine And.intro ?_ ?_ | omega) | exact xa6 | (refine xa1 ?_; omega) | (refine za9 ⟨?_,?_⟩) | (simp only [go_sem,Qc,Qb,zb1,zb2,forall_eq]; done)))
     all_goals refine hE1 _ _ xa2 ?_
     all_goals simp (disch:=first | omega | decide +kernel) only [go_sem,Qa,Qb,Qc,Qd,Qe,↓reduceIte,reduceCtorEq,Qf,Qg,Qh]
     all_goals clear hN hE1 d5
     all_goals (
      refine Ok.loopNO [191,190,189,188,187,186,185,184,183,182,181,180,179,178,177,176,175,174,173,172,171,170,169,168,167,166,165,164,163,162,161,160,159,158,157,156,155,154,153,152,151,150,149,148,147,146,145,144,143,142,141,140,139,138,137,136,135,134,133,132,131,130,129,128,127,126,125,124,123,122,121,120,119,118,117,116,115,114,113,112,111,110,109,108,107,106,105,104,103,102,101,100,99,98,97,96,95,94,93,92,91,90,89,88,87,86,85,84,83,82,81,80,79,78,77,76,75,74,73,72,71,70,69,68,67,66,65,64,63,62,61,60,59,58,57,56,55,54,53,52,51,50,49,48,47,46,45,44,43,42,41,40,39,38,37,36,35,34,33,32,31,30,29,28,27,26,25,24,23,22,21,20,19,18,17,16,15,14,13,12,11,10,9,8,7,6,5,4,1] (fun i (a : GA) => [(7,.d (.int .i64 (i : Nat)))]) (fun _ (a : GA) => [(900000002,chO a.cs),(0,curB code a.t a.s)]) x1.toNat
       (fun i a => a.cs.length=i∧(t<=a.t∧a.t<=t + 2 * i)∧(0<=a.s∧a.s < 18446744073709551616)) ⟨0,[],[],t,s⟩ ⟨rfl,⟨Nat.le_refl _,Nat.le_refl _⟩,hs1,hs2⟩ (Wk.kk) ?_
      rintro R2 i2 ⟨_,es2,cs,t2,s2⟩ hN2 hE2 hi2 ⟨hcl,⟨ht3,ht4⟩,hs3,hs4⟩
      dsimp only at hcl ht3 ht4 hs3 hs4 ⊢
      by_cases hlt : (i2 : Int) < x1
      . refine Ok.seq (Ok.go ?_)
        simp (disch:=first | omega | decide +kernel) only [go_sem,Qa,Qb,Qc,Qd,Qe,↓reduceIte,reduceCtorEq,Qf,Qg,Qh]
        (repeat' (first | ((first | (refine xa0 ?_ ?_<;>intro q'<;>(have h':=q')<;>(try simp only [zz] at h')<;>try (exfalso; omega)) | (have q':=trivial; first | refine hE _ _ xa5 ?_ | refine hE _ _ xa2 ?_))<;>(try simp (disch:=first | omega | decide +kernel) only [q',go_sem,Qa,Qb,Qc,Qd,Qe,↓reduceIte,reduceCtorEq,Qf,Qg,Qh])<;>clear q') | (with_reducible first | refine And.intro ?_ ?_ | omega) | exact xa6 | (refine xa1 ?_; omega) | (refine za9 ⟨?_,?_⟩) | (simp only [go_sem,Qc,Qb,zb1,zb2,forall_eq]; done)))
        refine Ok.seq (Ok.block (Ok.reg7 [true,true,true,false,false,false,true,false] (by decide +kernel) ?_))
        simp (disch:=first | omega | decide +kernel) only [go_sem,Qa,Qb,Qc,Qd,Qe,↓reduceIte,reduceCtorEq,Qf,Qg,Qh]
        (repeat' (first | ((first | (refine xa0 ?_ ?_<;>intro q'<;>(have h':=q')<;>(try simp only [zz] at h')<;>try (exfalso; omega)) | (have q':=trivial; first | (refine xc5 _ (d2) ⟨.inl rfl,.inl rfl,trivial⟩ rfl (by simp [dstB]) (by omega) (by omega) (by omega) ?_; rintro _ atc sdc hatc1 hatc2 hsdc1 hsdc2 ⟨xc,rfl,hxc⟩) | refine hE _ _ xa5 ?_ | refine hE _ _ xa2 ?_))<;>(try simp (disch:=first | omega | decide +kernel) only [q',curO,curB,D.bytes,List.length_map,go_sem,Qa,Qb,Qc,Qd,Qe,↓reduceIte,reduceCtorEq,Qf,Qg,Qh])<;>clear q') | (with_reducible first | refine And.intro ?_ ?_ | omega) | exact xa6 | (refine xa1 ?_; omega) | (refine za9 ⟨?_,?_⟩) | (simp only [go_sem,Qc,Qb,zb1,zb2,forall_eq]; done)))
        refine Ok.go ?_
        simp (disch:=first | omega | decide +kernel) only [go_sem,Qa,Qb,Qc,Qd,Qe,↓reduceIte,reduceCtorEq,Qf,Qg,Qh]
        (repeat' (first | ((first | (refine xa0 ?_ ?_<;>intro q'<;>(have h':=q')<;>(try simp only [zz] at h')<;>try (exfalso; omega)) | (have q':=trivial; first | refine hE _ _ xa5 ?_ | refine hE _ _ xa2 ?_))<;>(try simp (disch:=first | omega | decide +kernel) only [q',go_sem,Qa,Qb,Qc,Qd,Qe,↓reduceIte,reduceCtorEq,Qf,Qg,Qh])<;>clear q') | (with_reducible first | refine And.intro ?_ ?_ | omega) | exact xa6 | (refine xa1 ?_; omega) | (refine za9 ⟨?_,?_⟩) | (simp only [go_sem,Qc,Qb,zb1,zb2,forall_eq]; done)))
        rw [show (i2 : Int) + 1=((i2 + 1 : Nat) : Int) by omega]
        refine hN2 ⟨0,es2,cs++[xc],atc,sdc⟩ _ (by omega) ⟨by dsimp only; rw [List.length_append,List.length_singleton]; omega,by dsimp only; omega,by dsimp only; omega⟩ (by refine Wk.auto ?_ ?_<;>simp [xb1,lk,killL,St.kill,xb4,xb6,AV.has,AV.hasL,AO.wipe,List.map_set,xc2,insL,xc4,ins,List.map_append,List.map_cons,List.map_nil])
      . refine Ok.go ?_
        simp (disch:=first | omega | decide +kernel) only [go_sem,Qa,Qb,Qc,Qd,Qe,↓reduceIte,reduceCtorEq,Qf,Qg,Qh]
        (repeat' (first | ((first | (refine xa0 ?_ ?_<;>intro q'<;>(have h':=q')<;>(try simp only [zz] at h')<;>try (exfalso; omega)) | (have q':=trivial; first | refine hE _ _ xa5 ?_ | refine hE _ _ xa2 ?_))<;>(try simp (disch:=first | omega | decide +kernel) only [q',go_sem,Qa,Qb,Qc,Qd,Qe,↓reduceIte,reduceCtorEq,Qf,Qg,Qh])<;>clear q') | (with_reducible first | refine And.intro ?_ ?_ | omega) | exact xa6 | (refine xa1 ?_; omega) | (refine za9 ⟨?_,?_⟩) | (simp only [go_sem,Qc,Qb,zb1,zb2,forall_eq]; done)))
        refine hE2 _ _ xa2 ?_
        simp (disch:=first | omega | decide +kernel) only [go_sem,Qa,Qb,Qc,Qd,Qe,↓reduceIte,reduceCtorEq,Qf,Qg,Qh]
        refine ⟨⟨x1,L,cs,t2,s2⟩,⟨⟨by dsimp only; omega,by dsimp only; omega,by dsimp only; omega,by dsimp only; omega,by dsimp only; omega⟩,by dsimp only; omega,by dsimp only; omega,by dsimp only; omega⟩,(by refine Wk.auto ?_ ?_<;>simp [xb1,lk,killL,St.kill,xb4,xb6,AV.has,AV.hasL,AO.wipe,List.map_set,xc2,insL,xc4,ins,])⟩)
end Abs.Y
