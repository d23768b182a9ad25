/- What functions of this program compute, over plain data. No condition. -/
import Derived.Test.YtndjinajjejmlaaPM22
import Derived.Test.YtndjinajjejmlaaChecked
import Derived.Shelf.SortM.Plain
import Derived.Shelf.SortM.SortNone
import Derived.Ground.SlgmProg
import Derived.Test.YtndjinajjejmlaaPM3
import Derived.Test.YtndjinajjejmlaaG5c
import Derived.Test.YtndjinajjejmlaaK2
import Derived.Test.YtndjinajjejmlaaPM6
import Derived.Test.YtndjinajjejmlaaW11
import Derived.Test.YtndjinajjejmlaaR3
set_option linter.all false
open Nat renaming reduceEqDiff -> Qa, reduceLT -> Qb, reduceAdd -> Qc, reduceMul -> Qd, reduceSub -> Qe, reduceLeDiff -> Qf, reduceSubDiff -> Qg, reduceBEq -> Qh
open Bool renaming not_eq_true' -> Ba, not_eq_false' -> Bb, and_eq_true -> Bc, or_eq_true -> Bh, or_eq_false_iff -> Be
open Int renaming ofNat_lt -> Ia, ofNat_le -> Ib, not_lt -> Ic, not_le -> Ie
open Decidable renaming not_not -> Da
namespace Abs
open Go Go.Proofs
theorem retR_cv2 {P : Program} {a j b : Nat} {t e : TypeId} {cells : List AV} {ds : List D} {y : D} {st : St} {u : Nat->Value} {R : AV->List (Nat × AO)->Prop} (h : lk a st.s=some (.p j 0)) (h' : lk b st.s=some (.d y)) (hj : lk j st.o=some (.box e cells)) (hag : aggT P t=true) (hn : P.cellsOf t=cells.length) (hd : allD cells=some ds)
 (hu : (P.underlying t).isSome=true) (hR : R (.tup [.d (.agg ds),.d y]) []) : retR P [.cell a t,.tmp b] u [] true R .ret st:=by
 have hl : (lk a st.s).bind (loadV P st.o t)=some (0 + P.cellsOf t<=cells.length∧(P.underlying t).isSome=true,.d (.agg ds)):=by
  rw [h,Option.bind_some,loadV,hj]
  simp only [hag,if_true,List.drop_zero,hn,List.take_length,hd]
 refine ⟨_,_,hR,?_⟩
 simp only [retM,resV,hl,h']
 exact ⟨⟨hu,⟨by omega,hu⟩,trivial⟩,⟨fun q => q,rfl,by simp,by simp,trivial⟩,.inl trivial⟩
theorem callX_relT {P N f cavs st dst K} {avs : List AV} {R : AV->Prop} (hs : CtrR P f avs [] [] true fun r oo => oo=[]∧R r) (hp : passM P st.o (nth []) true cavs avs) (hd : dstB N dst) (hK : ∀ res,R res->K (impM st dst (nth []) [] res [])) : callX P N f cavs dst K st :=
 callX_rel [] [] [] hs (by simpa [keysO,delL] using hp) trivial (by simp [namesI,keysO]) hd fun r oo ⟨e,h⟩ => by subst e; exact ⟨by simp [namesOK,keysO],hK r h⟩
end Abs
namespace Abs.Y
open Go Go.Proofs Abs
set_option maxRecDepth 100000

set_option maxHeartbeats 4000000 in
theorem edge27_ok {code : List Int} (hc : CodeOK code) (g : Chg) (hl : g.ed.length<=60) : Draws 18 [.d (D.chg g)] 10 (QI fun x => -1<=x∧x<=60) code:=fun at_ seed h1 h2 h3 => by
 have o16:=one_ok hc 16 (by omega)
 have aL:=amongB_ok hc [-1,(g.ed.length : Nat)] (-1) 60 (by simp) (by simp; omega)
 have dE:=pick_ok hc (g.ed.length : Nat) (by omega)
 simp only [List.map_cons,List.map_nil] at aL
 refine CtrR.of (n:=24) (rs:=[.tmp 4]) Try.func18 rfl rfl Try.ntmps18 rfl rfl (by kernel_rfl) Try.checked.mixed ?_; intro u
 simp (disch:=first | omega | decide +kernel) only [curO,curB,D.bytes,D.chg,D.ints,List.length_map,go_sem,Qa,Qb,Qc,Qd,Qe,↓reduceIte,reduceCtorEq,Qf,Qg,Qh]
 (repeat' (first | ((first | (refine gsel_split (fun q' => ?_) (fun q' => ?_)<;>(have h':=q')<;>(try simp only [za1,za2,Ba,Bb,za3,ne_eq,za4,za5,za6,Ia,Ib,Ic,Ie,Da,Bc,Bh,Be,za7,za8] at h')<;>try (exfalso; omega)) | (have q':=trivial; first | (refine callX_draw _ (o16) ⟨.inl rfl,.inl rfl,trivial⟩ rfl (by simp [dstB]) (by omega) (by omega) (by omega) ?_; rintro _ ata sda hata1 hata2 hsda1 hsda2 ⟨xa,rfl,hxa⟩) | (refine callX_drawL _ _ (aL) ⟨.inl rfl,.inl rfl,trivial⟩ rfl rfl (by decide) (by simp [dstB]) (by omega) (by omega) (by omega) ?_; rintro _ at1 sd1 hat1 hat2 hsd1 hsd2 ⟨x1,rfl,hx1⟩) | (refine callX_draw _ (dE) ⟨.inl rfl,.inl rfl,trivial⟩ rfl (by simp [dstB]) (by omega) (by omega) (by omega) ?_; rintro _ atb sdb hatb1 hatb2 hsdb1 hsdb2 ⟨xb,rfl,hxb⟩) | refine hE _ _ ret_ne ?_ | refine hE _ _ exit_ne ?_))<;>(try simp (disch:=first | omega | decide +kernel) only [q',curO,curB,D.bytes,D.chg,D.ints,List.length_map,go_sem,Qa,Qb,Qc,Qd,Qe,↓reduceIte,reduceCtorEq,Qf,Qg,Qh])<;>clear q') | refine hN _ ?_ ?_ Wk.kk | with_reducible refine And.intro ?_ ?_ | with_reducible omega | exact ok_ints | exact cells_ints | exact no_mem | with_reducible exact plain_ints | (refine le_maxLen ?_; omega) | (refine za9 ⟨?_,?_⟩) | (simp only [go_sem,Qc,Qb,zb1,zb2,forall_eq]; done)))
 all_goals (first | exact retR_draw rfl rfl rfl (by omega) (by omega) (by omega) (by omega) ⟨_,rfl,by omega,by omega⟩)
@[reducible] def QM : AV->Prop:=fun r => ∃ x : Chg × Int,r=.tup [.d (D.chg x.1),.d (.int .i64 x.2)]∧x.1.ed.length<=60∧x.1.ch.length<=60∧-1<=x.2∧x.2<=60
set_option maxHeartbeats 4000000 in
theorem drawMoveCharge_ok {code : List Int} (hc : CodeOK code) : CtrR Try.prog 5 [.d (D.bytes code)] [] [] true fun r oo => oo=[]∧QM r:=by
 have c1:=charged_ok hc
 have c2:=fun g hl => edge27_ok hc g hl
 refine CtrR.ofO (n:=15) (rs:=[.cell 2 27,.tmp 3]) Try.func5 rfl rfl Try.ntmps5 rfl rfl (by kernel_rfl) Try.checked.mixed ?_; intro u
 refine Ok.endsW ?_
 refine Ok.seq (Ok.go ?_)
 simp (disch:=first | omega | decide +kernel) only [curO,curB,D.bytes,go_sem,Qa,Qb,Qc,Qd,Qe,↓reduceIte,reduceCtorEq,Qf,Qg,Qh]
 refine Ok.seq (Ok.go ?_)
 simp (disch:=first | omega | decide +kernel) only [curO,curB,D.bytes,go_sem,Qa,Qb,Qc,Qd,Qe,↓reduceIte,reduceCtorEq,Qf,Qg,Qh]
 refine Ok.seq (Ok.go ?_)
 simp (disch:=first | omega | decide +kernel) only [curO,curB,D.bytes,go_sem,Qa,Qb,Qc,Qd,Qe,↓reduceIte,reduceCtorEq,Qf,Qg,Qh]
 refine callX_draw (at_:=0) _ c1 ⟨.inl rfl,trivial⟩ rfl (by simp [dstB]) (by omega) (by omega) (by omega) ?_
 rintro _ ata sda hata1 hata2 hsda1 hsda2 ⟨g,rfl,hg1,hg2⟩
 have c3:=c2 g hg1
 simp only [D.chg,D.ints] at c3
 simp (disch:=first | omega | decide +kernel) only [curO,curB,D.bytes,D.chg,D.ints,go_sem,Qa,Qb,Qc,Qd,Qe,↓reduceIte,reduceCtorEq,Qf,Qg,Qh]
 (repeat' (first | ((first | (refine gsel_split (fun q' => ?_) (fun q' => ?_)<;>(have h':=q')<;>(try simp only [za1,za2,Ba,Bb,za3,ne_eq,za4,za5,za6,Ia,Ib,Ic,Ie,Da,Bc,Bh,Be,za7,za8] at h')<;>try (exfalso; omega)) | (have q':=trivial; first | refine callX_new (curO,curB,D.bytes) rfl (by decide) ?_ | refine callY_new (curO,curB,D.bytes) rfl ?_ | refine hE _ _ ret_ne ?_ | refine hE _ _ exit_ne ?_))<;>(try simp (disch:=first | omega | decide +kernel) only [q',go_sem,Qa,Qb,Qc,Qd,Qe,↓reduceIte,reduceCtorEq,Qf,Qg,Qh])<;>clear q') | refine hN _ ?_ ?_ Wk.kk | with_reducible refine And.intro ?_ ?_ | with_reducible omega | exact ok_ints | exact cells_ints | exact no_mem | with_reducible exact plain_ints | (refine le_maxLen ?_; omega) | (refine za9 ⟨?_,?_⟩) | (simp only [go_sem,Qc,Qb,zb1,zb2,forall_eq]; done)))
 refine Ok.seq (Ok.reg8 [true,true,true,false,false,false] (by decide +kernel) ?_)
 simp (disch:=first | omega | decide +kernel) only [curO,curB,D.bytes,go_sem,Qa,Qb,Qc,Qd,Qe,↓reduceIte,reduceCtorEq,Qf,Qg,Qh]
 (repeat' (first | ((first | (refine gsel_split (fun q' => ?_) (fun q' => ?_)<;>(have h':=q')<;>(try simp only [za1,za2,Ba,Bb,za3,ne_eq,za4,za5,za6,Ia,Ib,Ic,Ie,Da,Bc,Bh,Be,za7,za8] at h')<;>try (exfalso; omega)) | (have q':=trivial; first | (refine callX_draw _ (c3) ⟨.inl rfl,.inl rfl,trivial⟩ rfl (by simp [dstB]) (by omega) (by omega) (by omega) ?_; rintro _ atb sdb hatb1 hatb2 hsdb1 hsdb2 ⟨xb,rfl,hxb⟩) | refine hE _ _ ret_ne ?_ | refine hE _ _ exit_ne ?_))<;>(try simp (disch:=first | omega | decide +kernel) only [q',curO,curB,D.bytes,go_sem,Qa,Qb,Qc,Qd,Qe,↓reduceIte,reduceCtorEq,Qf,Qg,Qh])<;>clear q') | refine hN _ ?_ ?_ Wk.kk | with_reducible refine And.intro ?_ ?_ | with_reducible omega | exact ok_ints | exact cells_ints | exact no_mem | with_reducible exact plain_ints | (refine le_maxLen ?_; omega) | (refine za9 ⟨?_,?_⟩) | (simp only [go_sem,Qc,Qb,zb1,zb2,forall_eq]; done)))
 all_goals refine Ok.go ?_
 all_goals simp (disch:=first | omega | decide +kernel) only [go_sem,Qa,Qb,Qc,Qd,Qe,↓reduceIte,reduceCtorEq,Qf,Qg,Qh]
 all_goals refine endFG [] ?_
 all_goals exact retR_cv2 rfl rfl rfl (by simp only [go_sem]) (by simp only [go_sem,List.length_cons,List.length_nil]) rfl (by simp only [go_sem]) ⟨rfl,(g,xb),rfl,hg1,hg2,hxb.1,hxb.2⟩
end Abs.Y

namespace Go.Proofs
open Go.Shelf Go.RowKit Go.Lib Go.Sort
def Try.layZ_ren : Go.Shelf.Ren:=⟨fun | 5 => 63 | 8 => 69 | 7 => 68 | 19 => 82 | 20 => 83 | 10 => 73 | 11 => 74 | 12 => 75 | 13 => 76 | 14 => 77 | 15 => 78 | 16 => 79 | 17 => 80 | 18 => 81 | 30 => 85 | 31 => 86 | 32 => 87 | 33 => 88 | 34 => 89 | 35 => 90 | 40 => 91 | n => n,fun | 23 => 25 | 25 => 3 | 3 => 3 | 32 => 93 | 22 => 25 | 0 => 0 | 44 => 111 | 46 => 45 | 4 => 4 | 36 => 105 | 35 => 104 | 41 => 38 | 5 => 5 | 9 => 9 | 53 => 114 | 57 => 118 | 63 => 120 | 64 => 121 | n => n,fun | n => n⟩
theorem Try.layZ : Go.Proofs.SlLaysM.n5 Try.prog Try.layZ_ren:={
 mixed:=by kernel_rfl
 f5:=⟨Try.f63.name,by decide,Try.func63.trans (congrArg some (by kernel_rfl))⟩
 f7:=⟨Try.f68.name,by decide,Try.func68.trans (congrArg some (by kernel_rfl))⟩
 f8:=Try.func69.trans (congrArg some (by kernel_rfl))
 f10:=⟨Try.f73.name,by decide,Try.func73.trans (congrArg some (by kernel_rfl))⟩
 f11:=⟨Try.f74.name,by decide,Try.func74.trans (congrArg some (by kernel_rfl))⟩
 f12:=⟨Try.f75.name,by decide,Try.func75.trans (congrArg some (by kernel_rfl))⟩
 f13:=⟨Try.f76.name,by decide,Try.func76.trans (congrArg some (by kernel_rfl))⟩
 f14:=⟨Try.f77.name,by decide,Try.func77.trans (congrArg some (by kernel_rfl))⟩
 f15:=⟨Try.f78.name,by decide,Try.func78.trans (congrArg some (by kernel_rfl))⟩
 f16:=⟨Try.f79.name,by decide,Try.func79.trans (congrArg some (by kernel_rfl))⟩
 f17:=⟨Try.f80.name,by decide,Try.func80.trans (congrArg some (by kernel_rfl))⟩
 f18:=⟨Try.f81.name,by decide,Try.func81.trans (congrArg some (by kernel_rfl))⟩
 f19:=Try.func82.trans (congrArg some (by kernel_rfl))
 f20:=Try.func83.trans (congrArg some (by kernel_rfl))
 f30:=⟨Try.f85.name,by decide,Try.func85.trans (congrArg some (by kernel_rfl))⟩
 f31:=Try.func86.trans (congrArg some (by kernel_rfl))
 f32:=Try.func87.trans (congrArg some (by kernel_rfl))
 f33:=⟨Try.f88.name,by decide,Try.func88.trans (congrArg some (by kernel_rfl))⟩
 f34:=⟨Try.f89.name,by decide,Try.func89.trans (congrArg some (by kernel_rfl))⟩
 f35:=⟨Try.f90.name,by decide,Try.func90.trans (congrArg some (by kernel_rfl))⟩
 f40:=⟨Try.f91.name,by decide,Try.func91.trans (congrArg some (by kernel_rfl))⟩
 t0:=Try.underlying0
 a0:=Try.isAgg0
 z0:=Try.sizeOf0
 v0:=Try.zeroValue0
 t3:=Try.underlying3
 a3:=Try.isAgg3
 z3:=Try.sizeOf3
 v3:=Try.zeroValue3
 t4:=Try.underlying4
 a4:=Try.isAgg4
 z4:=Try.sizeOf4
 v4:=Try.zeroValue4
 t5:=Try.underlying5
 a5:=Try.isAgg5
 z5:=Try.sizeOf5
 v5:=Try.zeroValue5
 t9:=Try.underlying9
 a9:=Try.isAgg9
 z9:=Try.sizeOf9
 v9:=Try.zeroValue9
 t22:=Try.underlying25
 a22:=Try.isAgg25
 z22:=Try.sizeOf25
 v22:=Try.zeroValue25
 t23:=Try.underlying25
 a23:=Try.isAgg25
 z23:=Try.sizeOf25
 v23:=Try.zeroValue25
 t25:=Try.underlying3
 a25:=Try.isAgg3
 z25:=Try.sizeOf3
 v25:=Try.zeroValue3
 t32:=Try.underlying93
 a32:=Try.isAgg93
 z32:=Try.sizeOf93
 v32:=Try.zeroValue93
 t35:=Try.underlying104
 a35:=Try.isAgg104
 z35:=Try.sizeOf104
 v35:=Try.zeroValue104
 t36:=Try.underlying105
 a36:=Try.isAgg105
 z36:=Try.sizeOf105
 v36:=Try.zeroValue105
 t41:=Try.underlying38
 a41:=Try.isAgg38
 z41:=Try.sizeOf38
 v41:=Try.zeroValue38
 t44:=Try.underlying111
 a44:=Try.isAgg111
 z44:=Try.sizeOf111
 v44:=Try.zeroValue111
 t46:=Try.underlying45
 a46:=Try.isAgg45
 z46:=Try.sizeOf45
 v46:=Try.zeroValue45
 t53:=Try.underlying114
 a53:=Try.isAgg114
 z53:=Try.sizeOf114
 v53:=Try.zeroValue114
 t57:=Try.underlying118
 a57:=Try.isAgg118
 z57:=Try.sizeOf118
 v57:=Try.zeroValue118
 t63:=Try.underlying120
 a63:=Try.isAgg120
 z63:=Try.sizeOf120
 v63:=Try.zeroValue120
 t64:=Try.underlying121
 a64:=Try.isAgg121
 z64:=Try.sizeOf121
 v64:=Try.zeroValue121 }
end Go.Proofs

namespace Abs.Y
open Go Go.Proofs Abs Go.Sort Go.Shelf Go.Lib Go.RowKit
set_option maxRecDepth 100000

theorem sortZ_len (xs : List Int) : (sortZ xs).length=xs.length:=(sortZ_perm xs).length_eq
theorem sortInts_ok (xs : List Int) (hx : xs.length<=4294967296) : CtrM Try.prog 63 [.sl 0] [(0,.arr 3 1 (xs.map (.int .i64)))] [0] false (.tup []) [(0,.arr 3 1 ((sortZ xs).map (.int .i64)))]:=by
 refine CtrM.inPlace ⟨_,Try.func63,by kernel_rfl,by kernel_rfl⟩ (sortZ_len xs) hx fun S β w rv hl hr => ?_
 obtain rfl : rv=[]:=by simpa using hl
 refine ⟨fun _ a cap => AnyM.slices_Sort_int_none Try.layZ a cap w,fun g cap hH hg => ?_⟩
 refine (AnyM.slices_Sort_int Try.layZ g 0 cap xs w hH hg (by omega)).mono fun en w' ⟨he,n,os,hw⟩ => ⟨he,n,os,?_⟩
 rw [hw]; rfl
theorem partsI_len (g : Chg) : (partsI g).length=(linesI g).length:=by simp [partsI]
theorem linesI_lin {g : Chg} (hg : goodC g=true) : ∀ k,k<=g.n.toNat->∀ l ∈ (linesL g k).2,LinOk g l:=by
 intro k
 induction k with
 | zero => intro _ l hl; simp [linesL] at hl
 | succ k ih =>
   intro hk l hl
   rw [linesL_succ] at hl
   unfold stepS at hl
   split at hl
   . exact ih (by omega) l hl
   . rcases List.mem_append.1 hl with hl | hl
     . exact ih (by omega) l hl
     . rw [List.mem_singleton.1 hl]; exact lineI_lin hg ⟨by omega,by omega⟩
set_option maxHeartbeats 8000000 in
theorem parts_ok (g : Chg) (hg : goodC g=true) : Ctr Try.prog 54 [D.chg g] false (.sl 0) [(0,.dp (some (25,1)) ((partsI g).map D.ints) none)]:=by
 have hs:=(goodC_spec hg).1
 have hn8:=hs.1.2
 have hn1:=hs.1.1
 have c1:=lines_ok g hg
 have hll:=linesL_le g g.n.toNat
 change (linesI g).length<=_ at hll
 have hlin : ∀ l ∈ linesI g,LinOk g l:=linesI_lin hg _ (Nat.le_refl _)
 have hpi : partsI g=(linesI g).map fun l => sortZ (l.map (·.1)):=rfl
 rw [hpi]
 generalize linesI g=ls at *
 have hsrt:=fun (xs : List Int) (hx : xs.length<=8) => (sortInts_ok xs (by omega)).deep (of_eq_true (bare_ints _))
 refine Ctr.of (n:=36) (rs:=[.tmp 2]) Try.func54 rfl rfl Try.ntmps54 rfl rfl (by kernel_rfl) Try.checked.mixed ?_
 simp (disch:=first | omega | decide +kernel) only [D.chg,D.ints,go_sem,Qa,Qb,Qc,Qd,Qe,↓reduceIte,reduceCtorEq,Qf,Qg,Qh]
 simp only [D.chg,D.ints] at c1
 (repeat' (first | ((first | (refine gsel_split (fun q' => ?_) (fun q' => ?_)<;>(have h':=q')<;>(try simp only [za1,za2,Ba,Bb,za3,ne_eq,za4,za5,za6,Ia,Ib,Ic,Ie,Da,Bc,Bh,Be,za7,za8] at h')) | (have q':=trivial; first | refine callX_shared (c1) rfl (by decide) ?_ | refine callY_shared (c1) rfl ?_ | refine hE _ _ ret_ne ?_ | refine hE _ _ exit_ne ?_))<;>(try simp (disch:=first | omega | decide +kernel) only [q',D.chg,D.ints,go_sem,Qa,Qb,Qc,Qd,Qe,↓reduceIte,reduceCtorEq,Qf,Qg,Qh])<;>clear q') | refine hN _ ?_ ?_ Wk.kk | with_reducible refine And.intro ?_ ?_ | with_reducible omega | exact ok_ints | exact cells_ints | exact no_mem | with_reducible exact plain_ints | (refine le_maxLen ?_; omega) | (refine za9 ⟨?_,?_⟩) | (simp only [go_sem,Qc,Qb,zb1,zb2,forall_eq]; done)))
 refine Ok.loopN [35,34,33,32,31,30,29,28,27,26,25,24,23,22,21,20,19,18,17,16,15,14,13,12,8,7,6,5,4,3] (fun i _ => [(12,.d (.int .i64 (i : Nat))),(3,.sl 3)]) (fun _ (p : List (List Int)) => [(3,.dp (some (25,1)) (p.map D.ints) none)]) ls.length
  (fun i p => p=(ls.take i).map fun l => sortZ (l.map (·.1))) [] (by simp) ((Wk.deep 3 rfl (by simp [flat])).trans (Wk.kk)) ?_
 rintro R i p hN hE hi hp
 have hpl : p.length=i:=by rw [hp]; simp; omega
 by_cases hlt : i < ls.length
 . have hl8:=(hlin _ (getD_mem (z:=([] : List (Int × Int))) hlt)).len
   have hel : el (List.map D.lin ls) i=.slice ((ls.getD i []).map D.ed):=el_map (f:=D.lin) [] hlt
   have htk : (ls.take (i + 1)).map (fun l => sortZ (l.map (·.1)))=p++[sortZ ((ls.getD i []).map (·.1))]:=by rw [hp,take_succ [] ls i hlt]; simp
   generalize ls.getD i []=l at *
   have c2:=hsrt (l.map (·.1)) (by simp; exact hl8)
   simp (disch:=first | omega | decide +kernel) only [hel,go_sem,Qa,Qb,Qc,Qd,Qe,↓reduceIte,reduceCtorEq,Qf,Qg,Qh]
   (repeat' (first | ((first | (refine gsel_split (fun q' => ?_) (fun q' => ?_)<;>(have h':=q')<;>(try simp only [za1,za2,Ba,Bb,za3,ne_eq,za4,za5,za6,Ia,Ib,Ic,Ie,Da,Bc,Bh,Be,za7,za8] at h')) | (have q':=trivial; first | refine hE _ _ ret_ne ?_ | refine hE _ _ exit_ne ?_))<;>(try simp (disch:=first | omega | decide +kernel) only [q',hel,go_sem,Qa,Qb,Qc,Qd,Qe,↓reduceIte,reduceCtorEq,Qf,Qg,Qh])<;>clear q') | refine hN _ ?_ ?_ Wk.kk | with_reducible refine And.intro ?_ ?_ | with_reducible omega | exact ok_ints | exact cells_ints | exact no_mem | with_reducible exact plain_ints | (refine le_maxLen ?_; omega) | (refine za9 ⟨?_,?_⟩) | (simp only [go_sem,Qc,Qb,zb1,zb2,forall_eq]; done)))
   refine Ok.loopN [27,26,25,24,23,22,21,20,19,18,8,6] (fun j _ => [(18,.d (.int .i64 (j : Nat))),(6,.sl 6)]) (fun _ (q : List Int) => [(6,.arr 3 1 (q.map (.int .i64)))]) l.length
    (fun j q => q=(l.take j).map (·.1)) [] (by simp) (Wk.kk) ?_
   rintro R2 j q hN2 hE hj hq
   have hql : q.length=j:=by rw [hq]; simp; omega
   by_cases hjl : j < l.length
   . have htk2 : (l.take (j + 1)).map (·.1)=q++[(l.getD j (0,0)).1]:=by rw [hq,take_succ (0,0) l j hjl]; simp
     have hel2 : el (List.map D.ed l) j=.agg [.int .i64 (l.getD j (0,0)).1,.int .i64 (l.getD j (0,0)).2]:=el_eds hjl
     generalize l.getD j (0,0)=r at *
     simp (disch:=first | omega | decide +kernel) only [hel2,go_sem,Qa,Qb,Qc,Qd,Qe,↓reduceIte,reduceCtorEq,Qf,Qg,Qh]
     (repeat' (first | ((first | (refine gsel_split (fun q' => ?_) (fun q' => ?_)<;>(have h':=q')<;>(try simp only [za1,za2,Ba,Bb,za3,ne_eq,za4,za5,za6,Ia,Ib,Ic,Ie,Da,Bc,Bh,Be,za7,za8] at h')) | (have q':=trivial; first | refine hE _ _ ret_ne ?_ | refine hE _ _ exit_ne ?_))<;>(try simp (disch:=first | omega | decide +kernel) only [q',hel2,go_sem,Qa,Qb,Qc,Qd,Qe,↓reduceIte,reduceCtorEq,Qf,Qg,Qh])<;>clear q') | refine hN _ ?_ ?_ Wk.kk | with_reducible refine And.intro ?_ ?_ | with_reducible omega | exact ok_ints | exact cells_ints | exact no_mem | with_reducible exact plain_ints | (refine le_maxLen ?_; omega) | (refine za9 ⟨?_,?_⟩) | (simp only [go_sem,Qc,Qb,zb1,zb2,forall_eq]; done)))
     refine hN2 (q++[r.1]) _ hjl htk2.symm (by refine Wk.auto ?_ ?_<;>simp [extraK,lk,killL,St.kill,wipeO,wipeS,AV.has,AV.hasL,AO.wipe,List.map_set,updSt,insL,dropS,ins,])
   . obtain rfl : j=l.length:=by omega
     rw [List.take_length] at hq
     rw [← hq] at c2 htk
     simp (disch:=first | omega | decide +kernel) only [go_sem,Qa,Qb,Qc,Qd,Qe,↓reduceIte,reduceCtorEq,Qf,Qg,Qh]
     (repeat' (first | ((first | (refine gsel_split (fun q' => ?_) (fun q' => ?_)<;>(have h':=q')<;>(try simp only [za1,za2,Ba,Bb,za3,ne_eq,za4,za5,za6,Ia,Ib,Ic,Ie,Da,Bc,Bh,Be,za7,za8] at h')) | (have q':=trivial; first | refine hE _ _ ret_ne ?_ | refine hE _ _ exit_ne ?_))<;>(try simp (disch:=first | omega | decide +kernel) only [q',go_sem,Qa,Qb,Qc,Qd,Qe,↓reduceIte,reduceCtorEq,Qf,Qg,Qh])<;>clear q') | refine hN _ ?_ ?_ Wk.kk | with_reducible refine And.intro ?_ ?_ | with_reducible omega | exact ok_ints | exact cells_ints | exact no_mem | with_reducible exact plain_ints | (refine le_maxLen ?_; omega) | (refine za9 ⟨?_,?_⟩) | (simp only [go_sem,Qc,Qb,zb1,zb2,forall_eq]; done)))
     all_goals (try (exfalso; omega))
     refine callX_keep 6 c2 ⟨.inl rfl,trivial⟩ rfl (by simp [dstB]) ?_
     have hsl:=sortZ_len q
     simp (disch:=first | omega | decide +kernel) only [go_sem,Qa,Qb,Qc,Qd,Qe,↓reduceIte,reduceCtorEq,Qf,Qg,Qh]
     (repeat' (first | ((first | (refine gsel_split (fun q' => ?_) (fun q' => ?_)<;>(have h':=q')<;>(try simp only [za1,za2,Ba,Bb,za3,ne_eq,za4,za5,za6,Ia,Ib,Ic,Ie,Da,Bc,Bh,Be,za7,za8] at h')) | (have q':=trivial; first | refine hE _ _ ret_ne ?_ | refine hE _ _ exit_ne ?_))<;>(try simp (disch:=first | omega | decide +kernel) only [q',go_sem,Qa,Qb,Qc,Qd,Qe,↓reduceIte,reduceCtorEq,Qf,Qg,Qh])<;>clear q') | refine hN _ ?_ ?_ Wk.kk | with_reducible refine And.intro ?_ ?_ | with_reducible omega | exact ok_ints | exact cells_ints | exact no_mem | with_reducible exact plain_ints | (refine le_maxLen ?_; omega) | (refine za9 ⟨?_,?_⟩) | (simp only [go_sem,Qc,Qb,zb1,zb2,forall_eq]; done)))
     all_goals (first | exact of_eq_true (bare_ints _) | omega | skip)
     refine hN (p++[sortZ q]) _ hlt htk.symm (by refine Wk.auto ?_ ?_<;>simp [extraK,lk,killL,St.kill,wipeO,wipeS,AV.has,AV.hasL,AO.wipe,List.map_set,updSt,insL,dropS,ins,D.ints])
 . obtain rfl : i=ls.length:=by omega
   rw [List.take_length] at hp
   simp (disch:=first | omega | decide +kernel) only [go_sem,Qa,Qb,Qc,Qd,Qe,↓reduceIte,reduceCtorEq,Qf,Qg,Qh]
   (repeat' (first | ((first | (refine gsel_split (fun q' => ?_) (fun q' => ?_)<;>(have h':=q')<;>(try simp only [za1,za2,Ba,Bb,za3,ne_eq,za4,za5,za6,Ia,Ib,Ic,Ie,Da,Bc,Bh,Be,za7,za8] at h')) | (have q':=trivial; first | refine hE _ _ ret_ne ?_ | refine hE _ _ exit_ne ?_))<;>(try simp (disch:=first | omega | decide +kernel) only [q',go_sem,Qa,Qb,Qc,Qd,Qe,↓reduceIte,reduceCtorEq,Qf,Qg,Qh])<;>clear q') | refine hN _ ?_ ?_ Wk.kk | with_reducible refine And.intro ?_ ?_ | with_reducible omega | exact ok_ints | exact cells_ints | exact no_mem | with_reducible exact plain_ints | (refine le_maxLen ?_; omega) | (refine za9 ⟨?_,?_⟩) | (simp only [go_sem,Qc,Qb,zb1,zb2,forall_eq]; done)))
   all_goals (try (exfalso; omega))
   rw [← hp]
   exact ret_dp 3 rfl rfl
def partsB (g : Chg) : List (List Int):=if goodC g then partsI g else []
end Abs.Y

namespace Abs.Y
open Go Go.Proofs Abs
set_option maxRecDepth 100000

end Abs.Y

namespace Abs.Y
open Go Go.Proofs Abs
set_option maxRecDepth 100000

def szE (n : Nat) (left : Int) : Int:=if left - n < 0 then -1 else left - n
def szC (g : Chg) (left : Int) : Int:=if szE g.ed.length left < 0 then -1 else szE g.ch.length (szE g.ed.length left)
def tw (e : Int × Int) (i : Nat) : List Int:=if i=0 then [0,0] else if i=1 then [e.1,0] else [e.1,e.2]
theorem Ctr.dataD {P : Program} {f : FuncId} {xs : List D} {sh : Bool} {τ : Option (TypeId × Nat)} {es : List D} (h : Ctr P f xs sh (.sl 0) [(0,.dp τ es none)]) : Ctr P f xs true (.d (.slice es)) []:=by
 refine ⟨h.1,fun S w vs hl hr => (h.2 S w vs hl hr).mono fun en w' ⟨v,he,hf,β,φ,hrel,hobj,hown,hdis⟩ => ⟨v,he,hf,β,φ,.d ?_,by simp [lk],by simp [lk],by simp [lk]⟩⟩
 cases hrel
 exact rd_of_row (hobj 0 (.dp τ es none) (by simp [lk])) rfl (fun g hg _ => ⟨hg.1.imp id fun h => ⟨rfl,h.2⟩,by simp [lk]⟩) fun g hg => ⟨.inl (hown 0 (.dp τ es none) g (by simp [lk]) hg),by simp [lk]⟩
end Abs.Y

namespace Abs.Y
open Go Go.Proofs Abs
set_option maxRecDepth 100000

def cntE (k : Int) : Nat->List (Int × Int)
 | 0 => []
 | n + 1 => (k,k + 1) :: cntE (k + 2) n
def innE (cur : List (Int × Int)) (i : Nat) (k : Int) (j : Nat) : List (Int × Int):=if j=0 then cur else if j=1 then cur.set i (k,(cur.getD i (0,0)).2) else cur.set i (k,k + 1)
end Abs.Y

namespace Abs.Y
open Go Go.Proofs Abs
set_option maxRecDepth 100000

theorem partsB_lens {g : Chg} : (partsB g).length<=8∧∀ x ∈ partsB g,x.length<=8:=by
 unfold partsB
 split
 . rename_i hg
   have hs:=(goodC_spec hg).1
   have hll:=linesL_le g g.n.toNat
   change (linesI g).length<=_ at hll
   have hn8:=hs.1.2
   refine ⟨by rw [partsI_len]; omega,fun x hx => ?_⟩
   obtain ⟨l,hl,rfl⟩:=List.mem_map.1 hx
   rw [sortZ_len,List.length_map]
   exact (linesI_lin hg _ (Nat.le_refl _) l hl).len
 . simp
end Abs.Y

namespace Abs.Y
open Go Go.Proofs Abs
set_option maxRecDepth 100000

theorem parts_mem {g : Chg} (hg : goodC g=true) {p : List Int} (hp : p ∈ partsI g) : p.length<=8∧∀ v ∈ p,0<=v∧v.toNat < g.ch.length:=by
 obtain ⟨l,hl,rfl⟩:=List.mem_map.1 hp
 have hk:=linesI_lin hg _ (Nat.le_refl _) l hl
 refine ⟨by rw [sortZ_len,List.length_map]; exact hk.len,fun v hv => ?_⟩
 obtain ⟨r,hr,rfl⟩:=List.mem_map.1 ((sortZ_perm _).mem_iff.1 hv)
 have:=hk.vx r hr
 have:=(goodC_spec hg).1.2.2
 omega
def sumCg (g : Chg) (p : List Int) : Int:=(p.map fun v => g.ch.getD v.toNat 0).sum
theorem sumCg_succ (g : Chg) (p : List Int) (j : Nat) (h : j < p.length) : sumCg g (p.take (j + 1))=sumCg g (p.take j) + g.ch.getD (p.getD j 0).toNat 0:=by
 unfold sumCg; rw [take_succ 0 p j h]; simp
theorem ch_bd {g : Chg} (hg : goodC g=true) {i : Nat} (h : i < g.ch.length) : 0<=g.ch.getD i 0∧g.ch.getD i 0<=1:=by
 have:=(goodC_spec hg).2.2 i h
 unfold chOk at this
 simp only [Bc,decide_eq_true_eq] at this
 exact this.1
theorem sumCg_bd {g : Chg} (hg : goodC g=true) {p : List Int} (hp : ∀ v ∈ p,0<=v∧v.toNat < g.ch.length) : ∀ j,j<=p.length->0<=sumCg g (p.take j)∧sumCg g (p.take j)<=j
 | 0,_ => by simp [sumCg]
 | j + 1, h => by
   have ih:=sumCg_bd hg hp j (by omega)
   have:=ch_bd hg (hp _ (getD_mem (z:=(0 : Int)) (show j < p.length by omega))).2
   rw [sumCg_succ g p j (by omega)]
   omega
def oddB (g : Chg) (i : Nat) : Bool:=decide (Int.tmod (sumCg g ((partsI g).getD i [])) 2=1)
def oddTo (g : Chg) (m : Nat) : List Int:=((List.range m).filter (oddB g)).map fun (k : Nat) => (k : Int)
def oddI (g : Chg) : List Int:=oddTo g (partsI g).length
theorem oddTo_succ (g : Chg) (m : Nat) : oddTo g (m + 1)=if oddB g m=true then oddTo g m++[(m : Int)] else oddTo g m:=by
 unfold oddTo
 rw [List.range_succ,List.filter_append,List.map_append]
 cases h : oddB g m<;>simp [h]
theorem oddTo_len (g : Chg) (m : Nat) : (oddTo g m).length<=m:=by
 unfold oddTo
 rw [List.length_map]
 have:=List.length_filter_le (oddB g) (List.range m)
 simpa using this
theorem partsI_le {g : Chg} (hg : goodC g=true) : (partsI g).length<=8:=by
 have h:=(partsB_lens (g:=g)).1
 unfold partsB at h
 rwa [hg,if_pos rfl] at h
set_option maxHeartbeats 4000000 in
theorem oddParts_ok (g : Chg) (hg : goodC g=true) : Ctr Try.prog 40 [D.chg g] false (.sl 0) [(0,.arr 3 1 ((oddI g).map (.int .i64)))]:=by
 have c1:=Ctr.dataD (parts_ok g hg)
 have hpl:=partsI_le hg
 have hmem:=fun p (hp : p ∈ partsI g) => parts_mem hg hp
 have hbd:=fun p (hp : p ∈ partsI g) j (hj : j<=p.length) => sumCg_bd hg (hmem p hp).2 j hj
 have hoB : ∀ i,oddB g i=decide (Int.tmod (sumCg g ((partsI g).getD i [])) 2=1):=fun i => rfl
 have hoI : oddI g=oddTo g (partsI g).length:=rfl
 rw [hoI]
 generalize partsI g=ps at *
 simp only [D.chg,D.ints] at c1
 refine Ctr.of (n:=40) (rs:=[.tmp 2]) Try.func40 rfl rfl Try.ntmps40 rfl rfl (by kernel_rfl) Try.checked.mixed ?_
 simp (disch:=first | omega | decide +kernel) only [D.chg,D.ints,go_sem,Qa,Qb,Qc,Qd,Qe,↓reduceIte,reduceCtorEq,Qf,Qg,Qh]
 (repeat' (first | ((first | (refine gsel_split (fun q' => ?_) (fun q' => ?_)<;>(have h':=q')<;>(try simp only [za1,za2,Ba,Bb,za3,ne_eq,za4,za5,za6,Ia,Ib,Ic,Ie,Da,Bc,Bh,Be,za7,za8] at h')) | (have q':=trivial; first | refine callX_shared (c1) rfl (by decide) ?_ | refine callY_shared (c1) rfl ?_ | refine hE _ _ ret_ne ?_ | refine hE _ _ exit_ne ?_))<;>(try simp (disch:=first | omega | decide +kernel) only [q',D.ints,go_sem,Qa,Qb,Qc,Qd,Qe,↓reduceIte,reduceCtorEq,Qf,Qg,Qh])<;>clear q') | refine hN _ ?_ ?_ Wk.kk | with_reducible refine And.intro ?_ ?_ | with_reducible omega | exact ok_ints | exact cells_ints | exact no_mem | with_reducible exact plain_ints | (refine le_maxLen ?_; omega) | (refine za9 ⟨?_,?_⟩) | (simp only [go_sem,Qc,Qb,zb1,zb2,forall_eq]; done)))
 refine Ok.loopN [39,38,37,36,35,34,33,32,31,30,29,28,27,26,25,24,23,22,21,20,19,18,17,16,15,14,13,12,8,7,6,5,4,3] (fun i _ => [(12,.d (.int .i64 (i : Nat))),(3,.sl 3)]) (fun _ (cur : List Int) => [(3,.arr 3 1 (cur.map (.int .i64)))]) ps.length
  (fun i cur => cur=oddTo g i) [] (by simp [oddTo]) (Wk.kk) ?_
 rintro R i cur hN hE hi rfl
 have hll:=oddTo_len g i
 have hsu:=oddTo_succ g i
 by_cases hlt : i < ps.length
 . have hm:=getD_mem (z:=([] : List Int)) hlt
   have hb:=hbd _ hm
   obtain ⟨hl8,hv⟩:=hmem _ hm
   have ho:=hoB i
   generalize hpd : ps.getD i []=p at *
   simp (disch:=first | omega | decide +kernel) only [hpd,go_sem,Qa,Qb,Qc,Qd,Qe,↓reduceIte,reduceCtorEq,Qf,Qg,Qh]
   (repeat' (first | ((first | (refine gsel_split (fun q' => ?_) (fun q' => ?_)<;>(have h':=q')<;>(try simp only [za1,za2,Ba,Bb,za3,ne_eq,za4,za5,za6,Ia,Ib,Ic,Ie,Da,Bc,Bh,Be,za7,za8] at h')) | (have q':=trivial; first | refine hE _ _ ret_ne ?_ | refine hE _ _ exit_ne ?_))<;>(try simp (disch:=first | omega | decide +kernel) only [q',hpd,D.ints,go_sem,Qa,Qb,Qc,Qd,Qe,↓reduceIte,reduceCtorEq,Qf,Qg,Qh])<;>clear q') | refine hN _ ?_ ?_ Wk.kk | with_reducible refine And.intro ?_ ?_ | with_reducible omega | exact ok_ints | exact cells_ints | exact no_mem | with_reducible exact plain_ints | (refine le_maxLen ?_; omega) | (refine za9 ⟨?_,?_⟩) | (simp only [go_sem,Qc,Qb,zb1,zb2,forall_eq]; done)))
   refine Ok.loopN [30,29,28,27,26,25,24,23,22,21,20,19,8,6] (fun j _ => [(19,.d (.int .i64 (j : Nat))),(6,.d (.int .i64 (sumCg g (p.take j))))]) (fun _ (_ : Unit) => []) p.length (fun _ _ => True) () trivial (by refine Wk.auto ?_ ?_<;>simp [extraK,lk,killL,St.kill,wipeO,wipeS,AV.has,AV.hasL,AO.wipe,List.map_set,updSt,insL,dropS,ins,sumCg]) ?_
   rintro R2 j _ hN2 hE hj _
   by_cases hjl : j < p.length
   . have hv:=hv _ (getD_mem (z:=(0 : Int)) hjl)
     have hb:=hb j hj
     have hb2:=ch_bd hg hv.2
     have hs:=sumCg_succ g p j hjl
     generalize hvd : p.getD j 0=v at *
     have hel : el (List.map (D.int .i64) g.ch) v.toNat=.int .i64 (g.ch.getD v.toNat 0):=el_ints hv.2
     simp (disch:=first | omega | decide +kernel) only [hvd,hel,go_sem,Qa,Qb,Qc,Qd,Qe,↓reduceIte,reduceCtorEq,Qf,Qg,Qh]
     (repeat' (first | ((first | (refine gsel_split (fun q' => ?_) (fun q' => ?_)<;>(have h':=q')<;>(try simp only [za1,za2,Ba,Bb,za3,ne_eq,za4,za5,za6,Ia,Ib,Ic,Ie,Da,Bc,Bh,Be,za7,za8] at h')) | (have q':=trivial; first | refine hE _ _ ret_ne ?_ | refine hE _ _ exit_ne ?_))<;>(try simp (disch:=first | omega | decide +kernel) only [q',hvd,hel,go_sem,Qa,Qb,Qc,Qd,Qe,↓reduceIte,reduceCtorEq,Qf,Qg,Qh])<;>clear q') | refine hN _ ?_ ?_ Wk.kk | with_reducible refine And.intro ?_ ?_ | with_reducible omega | exact ok_ints | exact cells_ints | exact no_mem | with_reducible exact plain_ints | (refine le_maxLen ?_; omega) | (refine za9 ⟨?_,?_⟩) | (simp only [go_sem,Qc,Qb,zb1,zb2,forall_eq]; done)))
     refine hN2 () _ hjl trivial (by refine Wk.auto ?_ ?_<;>simp [extraK,lk,killL,St.kill,wipeO,wipeS,AV.has,AV.hasL,AO.wipe,List.map_set,updSt,insL,dropS,ins,hs])
   . obtain rfl : j=p.length:=by omega
     have hb:=hb p.length (Nat.le_refl _)
     rw [List.take_length] at hb ⊢
     generalize sumCg g p=sm at *
     simp (disch:=first | omega | decide +kernel) only [go_sem,Qa,Qb,Qc,Qd,Qe,↓reduceIte,reduceCtorEq,Qf,Qg,Qh]
     (repeat' (first | ((first | (refine gsel_split (fun q' => ?_) (fun q' => ?_)<;>(have h':=q')<;>(try simp only [za1,za2,Ba,Bb,za3,ne_eq,za4,za5,za6,Ia,Ib,Ic,Ie,Da,Bc,Bh,Be,za7,za8] at h')) | (have q':=trivial; first | refine hE _ _ ret_ne ?_ | refine hE _ _ exit_ne ?_))<;>(try simp (disch:=first | omega | decide +kernel) only [q',go_sem,Qa,Qb,Qc,Qd,Qe,↓reduceIte,reduceCtorEq,Qf,Qg,Qh])<;>clear q') | refine hN _ ?_ ?_ Wk.kk | with_reducible refine And.intro ?_ ?_ | with_reducible omega | exact ok_ints | exact cells_ints | exact no_mem | with_reducible exact plain_ints | (refine le_maxLen ?_; omega) | (refine za9 ⟨?_,?_⟩) | (simp only [go_sem,Qc,Qb,zb1,zb2,forall_eq]; done)))
     all_goals (try (exfalso; omega))
     . rw [ho,decide_eq_true h',if_pos rfl] at hsu
       refine hN (oddTo g i++[(i : Int)]) _ hlt hsu.symm (by refine Wk.auto ?_ ?_<;>simp [extraK,lk,killL,St.kill,wipeO,wipeS,AV.has,AV.hasL,AO.wipe,List.map_set,updSt,insL,dropS,ins,])
     . rw [ho,decide_eq_false h',if_neg (by simp)] at hsu
       refine hN (oddTo g i) _ hlt hsu.symm (by refine Wk.auto ?_ ?_<;>simp [extraK,lk,killL,St.kill,wipeO,wipeS,AV.has,AV.hasL,AO.wipe,List.map_set,updSt,insL,dropS,ins,])
 . obtain rfl : i=ps.length:=by omega
   simp (disch:=first | omega | decide +kernel) only [go_sem,Qa,Qb,Qc,Qd,Qe,↓reduceIte,reduceCtorEq,Qf,Qg,Qh]
   (repeat' (first | ((first | (refine gsel_split (fun q' => ?_) (fun q' => ?_)<;>(have h':=q')<;>(try simp only [za1,za2,Ba,Bb,za3,ne_eq,za4,za5,za6,Ia,Ib,Ic,Ie,Da,Bc,Bh,Be,za7,za8] at h')) | (have q':=trivial; first | refine hE _ _ ret_ne ?_ | refine hE _ _ exit_ne ?_))<;>(try simp (disch:=first | omega | decide +kernel) only [q',go_sem,Qa,Qb,Qc,Qd,Qe,↓reduceIte,reduceCtorEq,Qf,Qg,Qh])<;>clear q') | refine hN _ ?_ ?_ Wk.kk | with_reducible refine And.intro ?_ ?_ | with_reducible omega | exact ok_ints | exact cells_ints | exact no_mem | with_reducible exact plain_ints | (refine le_maxLen ?_; omega) | (refine za9 ⟨?_,?_⟩) | (simp only [go_sem,Qc,Qb,zb1,zb2,forall_eq]; done)))
   all_goals (try (exfalso; omega))
   exact ret_sl 3 rfl rfl plain_ints
def oddsB (g : Chg) : List Int:=if goodC g then oddI g else []
theorem oddsB_len {g : Chg} : (oddsB g).length<=8:=by
 unfold oddsB
 split
 . rename_i hg
   have h1:=partsI_le hg
   have h2:=oddTo_len g (partsI g).length
   unfold oddI; omega
 . simp
theorem impl_OddParts_ok (g : Chg) (hl : g.ed.length<=4294967296) (hc : g.ch.length<=4294967296) :
 Ctr Try.prog 15 [D.chg g] false (.tup [.sl 0,.d (.bool (goodC g))]) [(0,.arr 3 1 ((oddsB g).map (.int .i64)))]:=by
 have c1:=isCharged_ok g hl hc
 unfold oddsB
 cases hb : goodC g with
 | false =>
   rw [hb] at c1
   refine Ctr.of (n:=9) (rs:=[.tmp 2,.tmp 3]) Try.func15 rfl rfl Try.ntmps15 rfl rfl (by kernel_rfl) Try.checked.mixed ?_
   simp (disch:=first | omega | decide +kernel) only [D.chg,D.ints,go_sem,Qa,Qb,Qc,Qd,Qe,↓reduceIte,reduceCtorEq,Qf,Qg,Qh]
   simp only [D.chg,D.ints] at c1
   (repeat' (first | ((first | (refine gsel_split (fun q' => ?_) (fun q' => ?_)<;>(have h':=q')<;>(try simp only [za1,za2,Ba,Bb,za3,ne_eq,za4,za5,za6,Ia,Ib,Ic,Ie,Da,Bc,Bh,Be,za7,za8] at h')) | (have q':=trivial; first | refine callX_new (c1) rfl (by decide) ?_ | refine callY_new (c1) rfl ?_ | refine hE _ _ ret_ne ?_ | refine hE _ _ exit_ne ?_))<;>(try simp (disch:=first | omega | decide +kernel) only [q',D.chg,D.ints,go_sem,Qa,Qb,Qc,Qd,Qe,↓reduceIte,reduceCtorEq,Qf,Qg,Qh])<;>clear q') | refine hN _ ?_ ?_ Wk.kk | with_reducible refine And.intro ?_ ?_ | with_reducible omega | exact ok_ints | exact cells_ints | exact no_mem | with_reducible exact plain_ints | (refine le_maxLen ?_; omega) | (refine za9 ⟨?_,?_⟩) | (simp only [go_sem,Qc,Qb,zb1,zb2,forall_eq]; done)))
   (first | exact ret_sld _ rfl rfl rfl plain_ints rfl | exact ret_sld _ rfl rfl rfl no_mem rfl)
 | true =>
   rw [hb] at c1
   have c2:=oddParts_ok g hb
   refine Ctr.of (n:=9) (rs:=[.tmp 2,.tmp 3]) Try.func15 rfl rfl Try.ntmps15 rfl rfl (by kernel_rfl) Try.checked.mixed ?_
   simp (disch:=first | omega | decide +kernel) only [D.chg,D.ints,go_sem,Qa,Qb,Qc,Qd,Qe,↓reduceIte,reduceCtorEq,Qf,Qg,Qh]
   simp only [D.chg,D.ints] at c1 c2
   (repeat' (first | ((first | (refine gsel_split (fun q' => ?_) (fun q' => ?_)<;>(have h':=q')<;>(try simp only [za1,za2,Ba,Bb,za3,ne_eq,za4,za5,za6,Ia,Ib,Ic,Ie,Da,Bc,Bh,Be,za7,za8] at h')) | (have q':=trivial; first | refine callX_new (c1) rfl (by decide) ?_ | refine callY_new (c1) rfl ?_ | refine callX_new (c2) rfl (by decide) ?_ | refine callY_new (c2) rfl ?_ | refine hE _ _ ret_ne ?_ | refine hE _ _ exit_ne ?_))<;>(try simp (disch:=first | omega | decide +kernel) only [q',D.chg,D.ints,go_sem,Qa,Qb,Qc,Qd,Qe,↓reduceIte,reduceCtorEq,Qf,Qg,Qh])<;>clear q') | refine hN _ ?_ ?_ Wk.kk | with_reducible refine And.intro ?_ ?_ | with_reducible omega | exact ok_ints | exact cells_ints | exact no_mem | with_reducible exact plain_ints | (refine le_maxLen ?_; omega) | (refine za9 ⟨?_,?_⟩) | (simp only [go_sem,Qc,Qb,zb1,zb2,forall_eq]; done)))
   (first | exact ret_sld _ rfl rfl rfl plain_ints rfl | exact ret_sld _ rfl rfl rfl no_mem rfl)
end Abs.Y

namespace Abs.Y
open Go Go.Proofs Abs
set_option maxRecDepth 100000

theorem remG_good {g : Chg} (hg : GoodP g) {k : Nat} (hk : k < g.ed.length) (b : Int) : GoodP (remG g k b):=by
 have hf:=flipG_good hg hk
 obtain ⟨M,hM⟩ : ∃ M,g.ed.length=M + 1:=⟨g.ed.length - 1,by omega⟩
 have hl : (remG g k b).ed.length=M:=by show (g.ed.eraseIdx k).length=M; rw [List.length_eraseIdx,if_pos hk]; omega
 have hcl : (remG g k b).ch.length=g.ch.length:=by
  show (if b=1 then flipC g.ch (g.ed.getD k (0,0)) else g.ch).length=_
  split
  . exact flipC_len _ _
  . rfl
 refine ⟨hg.n1,by have:=hg.m; omega,by rw [hcl]; exact hg.c,fun e he => hg.e e (List.mem_of_mem_eraseIdx he),fun v hv => ?_,fun v hv => ?_⟩
 . rw [hcl] at hv
   show 0<=(if b=1 then flipC g.ch (g.ed.getD k (0,0)) else g.ch).getD v 0∧(if b=1 then flipC g.ch (g.ed.getD k (0,0)) else g.ch).getD v 0<=1
   split
   . exact hf.q v (by show v < (flipC g.ch _).length; rw [flipC_len]; exact hv)
   . exact hg.q v hv
 . rw [hcl] at hv
   have h4:=hg.d v hv
   have h1:=deg_sum (remG g k b) v
   have h2:=deg_sum g v
   have hat : ∀ j,atB (remG g k b) v j=atB g v (delN k j):=fun j => by
    unfold atB
    show (decide (((g.ed.eraseIdx k).getD j (0,0)).1=_) || decide (((g.ed.eraseIdx k).getD j (0,0)).2=_))=_
    rw [erase_get]
   rw [hl] at h1
   rw [hM,(rs_del (fun j => if atB g v j then (1 : Int) else 0) (b:=k) M).2 (by omega)] at h2
   have h3 : rs M (fun j => if atB (remG g k b) v j then (1 : Int) else 0)=rs M fun w => if atB g v (delN k w) then (1 : Int) else 0:=rs_congr _ fun j _ => by rw [hat]
   have h5 : (0 : Int)<=if atB g v k then (1 : Int) else 0:=by split<;>omega
   omega
theorem oddI_of {g h : Chg} (hl : (partsI g).length=(partsI h).length) (hs : ∀ i,i < (partsI g).length->oddB g i=oddB h i) : oddI g=oddI h:=by
 unfold oddI oddTo
 rw [← hl]
 congr 1
 exact List.filter_congr fun i hi => hs i (List.mem_range.1 hi)
theorem part_at {g : Chg} (hg : goodC g=true) {i : Nat} (hi : i < (partsI g).length) : ∃ v : Nat,(v : Int) < g.n∧(partsI g).getD i []=cmpV g v:=by
 have hm:=getD_mem (z:=([] : List Int)) hi
 rw [parts_char hg] at hm ⊢
 obtain ⟨v,hv,e⟩:=List.mem_map.1 hm
 have:=List.mem_range.1 (List.mem_filter.1 hv).1
 have:=(good_iff.1 hg).n1
 exact ⟨v,by omega,e.symm⟩
theorem odd_flip {g : Chg} (hg : goodC g=true) {k : Nat} (hk : k < g.ed.length) : oddI (flipG g k)=oddI g:=by
 have hf:=good_iff.2 (flipG_good (good_iff.1 hg) hk)
 have hp : partsI (flipG g k)=partsI g:=partsI_ed hf hg rfl rfl
 refine oddI_of (by rw [hp]) fun i hi => ?_
 rw [hp] at hi
 obtain ⟨v,_,e⟩:=part_at hg hi
 have hs:=flip_sum (good_iff.1 hg) hk v
 have hc : cmpV (flipG g k) v=cmpV g v:=by
  unfold cmpV
  exact congrArg _ (List.filter_congr fun w _ => connB_ed (g:=flipG g k) (h:=g) rfl v w)
 unfold oddB
 rw [hp,e]
 rw [hc] at hs
 exact hs
theorem odd_merge {g : Chg} (hg : goodC g=true) {k : Nat} (hk : k < g.ed.length) (hm : goodC (mergeG g k)=true) : oddI (mergeG g k)=oddI g:=by
 have he:=(good_iff.1 hg).e _ (getD_mem (z:=((0 : Int),(0 : Int))) hk)
 have hab : (((g.ed.getD k (0,0)).1.toNat : Int),((g.ed.getD k (0,0)).2.toNat : Int)) ∈ g.ed:=by
  have h:=getD_mem (z:=((0 : Int),(0 : Int))) hk
  rwa [Int.toNat_of_nonneg he.1,Int.toNat_of_nonneg (by omega)]
 have hM : (mergeG g k).ed=mergeE (((g.ed.getD k (0,0)).1.toNat : Nat) : Int) (((g.ed.getD k (0,0)).2.toNat : Nat) : Int) g.ed:=by
  rw [Int.toNat_of_nonneg he.1,Int.toNat_of_nonneg (by omega)]; rfl
 obtain ⟨L,h1,h2⟩:=merge_parts (good_iff.1 hg) hab (good_iff.1 hm) rfl hM
 refine oddI_of (by rw [h1,h2,List.length_map,List.length_map]) fun i hi => ?_
 rw [h1,List.length_map] at hi
 have hs:=merge_sum (good_iff.1 hg) hab (good_iff.1 hm) rfl hM rfl (L.getD i 0)
 have g1 : ∀ f : Nat->List Int,(L.map f).getD i []=f (L.getD i 0):=fun f => by simp [List.getD_eq_getElem?_getD,hi]
 unfold oddB
 rw [h1,h2,g1,g1]
 exact hs
theorem cm_flip {g : Chg} (hg : GoodP g) {k : Nat} (hk : k < g.ed.length) : cmI (flipG g k).ed.length (parI (flipG g k))=cmI g.ed.length (parI g):=by
 rw [par_cnt (flipG_good hg hk),par_cnt hg,cnt_flip hg hk]
theorem cm_rem {g : Chg} (hg : GoodP g) {k : Nat} (hk : k < g.ed.length) : cmI (remG g k 0).ed.length (parI (remG g k 0)) + cmI (remG g k 1).ed.length (parI (remG g k 1))=cmI g.ed.length (parI g):=by
 rw [par_cnt (remG_good hg hk 0),par_cnt (remG_good hg hk 1),par_cnt hg]
 exact cnt_rem hg hk
end Abs.Y

namespace Abs.Y
open Go Go.Proofs Abs
set_option maxRecDepth 100000

theorem rCharged_self (g : Chg) (hl : g.ed.length<=1048576) (hc : g.ch.length<=1048576) : Ctr Try.prog 8 [D.chg g,D.chg g] false (.d (.bool true)) []:=by
 have c1:=rInts_self g.ch (by omega)
 simp only [D.ints] at c1
 refine Ctr.of (n:=43) (rs:=[.tmp 4]) Try.func8 rfl rfl Try.ntmps8 rfl rfl (by kernel_rfl) Try.checked.mixed ?_
 simp (disch:=first | omega | decide +kernel) only [D.chg,D.ints,List.length_map,go_sem,Qa,Qb,Qc,Qd,Qe,↓reduceIte,reduceCtorEq,Qf,Qg,Qh]
 (repeat' (first | ((first | (refine gsel_split (fun q' => ?_) (fun q' => ?_)<;>(have h':=q')<;>(try simp only [za1,za2,Ba,Bb,za3,ne_eq,za4,za5,za6,Ia,Ib,Ic,Ie,Da,Bc,Bh,Be,za7,za8] at h')<;>try (exfalso; omega)) | (have q':=trivial; first | refine hE _ _ ret_ne ?_ | refine hE _ _ exit_ne ?_))<;>(try simp (disch:=first | omega | decide +kernel) only [q',D.ints,List.length_map,go_sem,Qa,Qb,Qc,Qd,Qe,↓reduceIte,reduceCtorEq,Qf,Qg,Qh])<;>clear q') | with_reducible refine And.intro ?_ ?_ | with_reducible omega | (refine le_maxLen ?_; omega)))
 all_goals (try (exact absurd trivial h'))
 refine Ok.loopC [37,36,35,34,33,32,31,30,29,28,27,26,25,24,23,22,21,20,19,18,17,16,15,14,13,12,11,10,9,8,7,6,5,4,1,0] (fun i => [(5,.d (.int .i64 (i : Nat)))]) g.ed.length (fun _ => True) trivial (Wk.kk) ?_
 intro R i hN hE hi _
 by_cases hlt : i < g.ed.length
 . have hei:=el_eds (xs:=g.ed) hlt
   simp (disch:=first | omega | decide +kernel) only [hei,List.length_map,go_sem,Qa,Qb,Qc,Qd,Qe,↓reduceIte,reduceCtorEq,Qf,Qg,Qh]
   (repeat' (first | ((first | (refine gsel_split (fun q' => ?_) (fun q' => ?_)<;>(have h':=q')<;>(try simp only [za1,za2,Ba,Bb,za3,ne_eq,za4,za5,za6,Ia,Ib,Ic,Ie,Da,Bc,Bh,Be,za7,za8] at h')<;>try (exfalso; omega)) | (have q':=trivial; first | refine hE _ _ ret_ne ?_ | refine hE _ _ exit_ne ?_))<;>(try simp (disch:=first | omega | decide +kernel) only [q',hei,List.length_map,go_sem,Qa,Qb,Qc,Qd,Qe,↓reduceIte,reduceCtorEq,Qf,Qg,Qh])<;>clear q') | with_reducible refine And.intro ?_ ?_ | with_reducible omega | (refine le_maxLen ?_; omega)))
   all_goals (try (exact absurd trivial h'))
   all_goals (first | exact hN _ hlt trivial (by refine Wk.auto ?_ ?_<;>simp [extraK,lk,killL,St.kill,wipeO,wipeS,AV.has,AV.hasL,AO.wipe,List.map_set,updSt,insL,dropS,ins,]))
 . simp (disch:=first | omega | decide +kernel) only [List.length_map,go_sem,Qa,Qb,Qc,Qd,Qe,↓reduceIte,reduceCtorEq,Qf,Qg,Qh]
   (repeat' (first | ((first | (refine gsel_split (fun q' => ?_) (fun q' => ?_)<;>(have h':=q')<;>(try simp only [za1,za2,Ba,Bb,za3,ne_eq,za4,za5,za6,Ia,Ib,Ic,Ie,Da,Bc,Bh,Be,za7,za8] at h')<;>try (exfalso; omega)) | (have q':=trivial; first | refine callX_new (c1) rfl (by decide) ?_ | refine callY_new (c1) rfl ?_ | refine hE _ _ ret_ne ?_ | refine hE _ _ exit_ne ?_))<;>(try simp (disch:=first | omega | decide +kernel) only [q',List.length_map,go_sem,Qa,Qb,Qc,Qd,Qe,↓reduceIte,reduceCtorEq,Qf,Qg,Qh])<;>clear q') | with_reducible refine And.intro ?_ ?_ | with_reducible omega | (refine le_maxLen ?_; omega)))
   all_goals trace_state
end Abs.Y
