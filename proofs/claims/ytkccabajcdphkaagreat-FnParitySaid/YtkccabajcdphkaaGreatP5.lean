/- What functions of this program compute, over plain data. No condition. -/
import Derived.Test.YtkccabajcdphkaaGreatW11
import Derived.Test.YtkccabajcdphkaaGreatPM22
import Derived.Test.YtkccabajcdphkaaGreatE4
import Derived.Test.YtkccabajcdphkaaGreatChecked
import Derived.RangeFuncBox
import Derived.RangeFuncLeaves
import Derived.Shelf.Abstract
import Derived.WalkKit
import Derived.OwnWalkIn
import Derived.TacticsInMore
import Derived.LoopNIn
import Derived.LoopIn
import Derived.Test.YtkccabajcdphkaaGreatAbsBox
import Derived.Test.YtkccabajcdphkaaGreatAbsRow
import Derived.RangeFuncNested
set_option linter.all false
open Nat renaming reduceEqDiff -> Qa, reduceLT -> Qb, reduceAdd -> Qc, reduceMul -> Qd, reduceSub -> Qe, reduceLeDiff -> Qf, reduceSubDiff -> Qg, reduceBEq -> Qh
open Bool renaming not_eq_true' -> Ba, not_eq_false' -> Bb, and_eq_true -> Bc, or_eq_true -> Bh, or_eq_false_iff -> Be
open Int renaming ofNat_lt -> Ia, ofNat_le -> Ib, not_lt -> Ic, not_le -> Ie
open Decidable renaming not_not -> Da
namespace Abs.Y
open Go Go.Proofs Abs
set_option maxRecDepth 100000

theorem yp9 {L : List (List Int)} {B : Nat} (h : ∀ x ∈ L,x.length<=B) (j : Nat) : (L.getD j []).length<=B:=by
 by_cases hj : j < L.length
 . exact h _ (xc0 hj)
 . rw [List.getD_eq_getElem?_getD,List.getElem?_eq_none (by omega)]; simp
theorem xy6 {g : Chg} (hg : GoodP g) : ∀ c ∈ parI g,c.length<=1048576:=fun c hc => by
 unfold parI parT at hc
 obtain ⟨v,_,hc⟩:=List.mem_flatMap.1 hc
 have h1:=congrArg List.length (ym1 _ c (List.mem_filter.1 hc).1)
 rw [List.length_map,List.length_map,yh8] at h1
 have h2:=xg4 g v g.ed.length
 have h3:=hg.m
 unfold xb0 at h1
 omega
theorem yp5 (u x : Nat) (cs : List (List Int)) (hk : xz5 u cs=true) (hc : ∀ c ∈ cs,c.length<=1048576) (hx : x < 2 ^ u) :
 Ctr Tryz.prog 17 [.agg [.int .i64 (u : Nat),.slice (cs.map D.ints)],.int .i64 (x : Nat)] false (.tup [.d (.bool (tmod cs x)),.d (.bool true)]) []:=by
 obtain ⟨h1,h2,h3⟩:=yn4 hk
 unfold xk1 at h1
 simp only [Bc,decide_eq_true_eq] at h1
 have hp : 2 ^ u<=2 ^ 12:=Nat.pow_le_pow_right (by decide) (by omega)
 have c1:=yy4 u cs (by omega) fun j => by have:=yp9 (B:=1048576) hc j; omega
 have c2:=yu7 cs x (zx1 hk hc) (by omega)
 have e : IntKind.wrap .i64 (1 * 2 ^ min u 64)=((2 ^ u : Nat) : Int):=xu1 (by omega)
 have c3:=xo2 x 0 (((2 ^ u : Nat) : Int) - 1)
 rw [hk] at c1
 generalize 2 ^ u=q at *
 rw [show (decide ((0 : Int)<=(x : Int)) && decide ((x : Int)<=((q : Nat) : Int) - 1))=true by simp; omega] at c3
 refine Ctr.of (n:=22) (rs:=[.tmp 4,.tmp 5]) Tryz.func17 rfl rfl Tryz.ntmps17 rfl rfl (by kernel_rfl) Tryz.checked.mixed ?_
 simp (disch:=first | omega | decide +kernel) only [e,Int.toNat_natCast,go_sem,Qa,Qb,Qc,Qd,Qe,↓reduceIte,reduceCtorEq,Qf,Qg,Qh]
 (repeat' (first | ((first | (refine xa0 ?_ ?_<;>intro q'<;>(have h':=q')<;>(try simp only [zz] at h')<;>try (exfalso; omega)) | (have q':=trivial; first | refine xa3 (c1) rfl (by decide) ?_ | refine xa4 (c1) rfl ?_ | refine xa3 (c2) rfl (by decide) ?_ | refine xa4 (c2) rfl ?_ | refine xa3 (c3) rfl (by decide) ?_ | refine xa4 (c3) rfl ?_ | refine hE _ _ xa5 ?_ | refine hE _ _ xa2 ?_))<;>(try simp (disch:=first | omega | decide +kernel) only [q',e,Int.toNat_natCast,go_sem,Qa,Qb,Qc,Qd,Qe,↓reduceIte,reduceCtorEq,Qf,Qg,Qh])<;>clear q') | (with_reducible first | refine And.intro ?_ ?_ | omega) | (refine xa1 ?_; omega)))
 all_goals (first | omega)
theorem isSatP_ok (u : Nat) (cs : List (List Int)) (hk : xz5 u cs=true) (hc : ∀ c ∈ cs,c.length<=1048576) :
 Ctr Tryz.prog 16 [.agg [.int .i64 (u : Nat),.slice (cs.map D.ints)]] false (.tup [.d (.bool (tsat u cs)),.d (.bool true)]) []:=by
 obtain ⟨h1,h2,h3⟩:=yn4 hk
 unfold xk1 at h1
 simp only [Bc,decide_eq_true_eq] at h1
 have c1:=yy4 u cs (by omega) fun j => by have:=yp9 (B:=1048576) hc j; omega
 have c2:=satisfiable_ok u (by omega) cs (zx1 hk hc)
 rw [hk] at c1
 refine Ctr.of (n:=12) (rs:=[.tmp 2,.tmp 3]) Tryz.func16 rfl rfl Tryz.ntmps16 rfl rfl (by kernel_rfl) Tryz.checked.mixed ?_
 simp (disch:=first | omega | decide +kernel) only [go_sem,Qa,Qb,Qc,Qd,Qe,↓reduceIte,reduceCtorEq,Qf,Qg,Qh]
 (repeat' (first | ((first | (refine xa0 ?_ ?_<;>intro q'<;>(have h':=q')<;>(try simp only [zz] at h')<;>try (exfalso; omega)) | (have q':=trivial; first | refine xa3 (c1) rfl (by decide) ?_ | refine xa4 (c1) rfl ?_ | refine xa3 (c2) rfl (by decide) ?_ | refine xa4 (c2) rfl ?_ | refine hE _ _ xa5 ?_ | refine hE _ _ xa2 ?_))<;>(try simp (disch:=first | omega | decide +kernel) only [q',go_sem,Qa,Qb,Qc,Qd,Qe,↓reduceIte,reduceCtorEq,Qf,Qg,Qh])<;>clear q') | (with_reducible first | refine And.intro ?_ ?_ | omega) | (refine xa1 ?_; omega)))
 all_goals (first | omega)
theorem zq3 {P : Program} {a j : Nat} {t e : TypeId} {cells : List AV} {ds : List D} {st : St} {u : Nat->Value} {R : AV->List (Nat × AO)->Prop} (h : lk a st.s=some (.p j 0)) (hj : lk j st.o=some (.box e cells)) (hag : aggT P t=true) (hn : P.cellsOf t=cells.length) (hd : allD cells=some ds)
 (hu : (P.underlying t).isSome=true) (hR : R (.d (.agg ds)) []) : retR P [.cell a t] u [] true R .ret st:=by
 have hl : (lk a st.s).bind (xi5 P st.o t)=some (0 + P.cellsOf t<=cells.length∧(P.underlying t).isSome=true,.d (.agg ds)):=by
  rw [h,Option.bind_some,xi5,hj]
  simp only [hag,if_true,List.drop_zero,hn,List.take_length,hd]
 refine ⟨_,_,hR,?_⟩
 simp only [retM,resV,hl]
 exact ⟨⟨hu,⟨by omega,hu⟩,trivial⟩,⟨fun q => q,rfl,by simp,by simp,trivial⟩,.inl trivial⟩
theorem retR_cvq {P : Program} {a j b : Nat} {t e : TypeId} {cells : List AV} {ds : List D} {y : D} {st : St} {u : Nat->Value} {R : AV->List (Nat × AO)->Prop} (h : lk a st.s=some (.p j 0)) (h' : lk b st.s=some (.d y)) (hj : lk j st.o=some (.box e cells)) (hag : aggT P t=true) (hn : P.cellsOf t=cells.length) (hd : allD cells=some ds)
 (hu : (P.underlying t).isSome=true) (hR : R (.tup [.d (.agg ds),.d y]) []) : retR P [.cell a t,.tmp b] u [] true R .ret st:=by
 have hl : (lk a st.s).bind (xi5 P st.o t)=some (0 + P.cellsOf t<=cells.length∧(P.underlying t).isSome=true,.d (.agg ds)):=by
  rw [h,Option.bind_some,xi5,hj]
  simp only [hag,if_true,List.drop_zero,hn,List.take_length,hd]
 refine ⟨_,_,hR,?_⟩
 simp only [retM,resV,hl,h']
 exact ⟨⟨hu,⟨by omega,hu⟩,trivial⟩,⟨fun q => q,rfl,by simp,by simp,trivial⟩,.inl trivial⟩
theorem yv7 {P N f cavs st dst K} {avs : List AV} {R : AV->Prop} (hs : CtrR P f avs [] [] true fun r oo => oo=[]∧R r) (hp : ya7 P st.o (nth []) true cavs avs) (hd : dstB N dst) (hK : ∀ res,R res->K (impM st dst (nth []) [] res [])) : yq6 P N f cavs dst K st :=
 xp0 [] [] [] hs (by simpa [xh7,delL] using hp) trivial (by simp [xs9,xh7]) hd fun r oo ⟨e,h⟩ => by subst e; exact ⟨by simp [xj9,xh7],hK r h⟩
theorem drawIsCharged_ok {code : List Int} (hc : CodeOK code) : CtrR Tryz.prog 36 [.d (D.bytes code)] [] [] true fun r oo => oo=[]∧QG r:=by
 have c1:=yv4 hc
 refine CtrR.ofO (n:=9) (rs:=[.cell 2 27]) Tryz.func36 rfl rfl Tryz.ntmps36 rfl rfl (by kernel_rfl) Tryz.checked.mixed ?_; intro u
 refine Ok.endsW ?_
 refine Ok.seq (Ok.go ?_)
 simp (disch:=first | omega | decide +kernel) only [curO,curB,D.bytes,go_sem,Qa,Qb,Qc,Qd,Qe,↓reduceIte,reduceCtorEq,Qf,Qg,Qh]
 refine Ok.seq (Ok.go ?_)
 simp (disch:=first | omega | decide +kernel) only [curO,curB,D.bytes,go_sem,Qa,Qb,Qc,Qd,Qe,↓reduceIte,reduceCtorEq,Qf,Qg,Qh]
 refine Ok.go ?_
 simp (disch:=first | omega | decide +kernel) only [curO,curB,D.bytes,go_sem,Qa,Qb,Qc,Qd,Qe,↓reduceIte,reduceCtorEq,Qf,Qg,Qh]
 refine xc5 (at_:=0) _ c1 ⟨.inl rfl,trivial⟩ rfl (by simp [dstB]) (by omega) (by omega) (by omega) ?_
 rintro _ ata sda hata1 hata2 hsda1 hsda2 ⟨g,rfl,hg1,hg2⟩
 simp (disch:=first | omega | decide +kernel) only [curO,curB,D.bytes,D.chg,D.ints,go_sem,Qa,Qb,Qc,Qd,Qe,↓reduceIte,reduceCtorEq,Qf,Qg,Qh]
 (repeat' (first | ((first | (refine xa0 ?_ ?_<;>intro q'<;>(have h':=q')<;>(try simp only [zz] at h')<;>try (exfalso; omega)) | (have q':=trivial; first | refine xa3 (curO,curB,D.bytes) rfl (by decide) ?_ | refine xa4 (curO,curB,D.bytes) rfl ?_ | refine hE _ _ xa5 ?_ | refine hE _ _ xa2 ?_))<;>(try simp (disch:=first | omega | decide +kernel) only [q',go_sem,Qa,Qb,Qc,Qd,Qe,↓reduceIte,reduceCtorEq,Qf,Qg,Qh])<;>clear q') | (with_reducible first | refine And.intro ?_ ?_ | omega) | exact xa6 | (refine xa1 ?_; omega) | (refine za9 ⟨?_,?_⟩) | (simp only [go_sem,Qc,Qb,zb1,zb2,forall_eq]; done)))
 refine zu9 [] ?_
 exact zq3 rfl rfl (by simp only [go_sem]) (by simp only [go_sem,List.length_cons,List.length_nil]) rfl (by simp only [go_sem]) ⟨rfl,g,rfl,hg1,hg2⟩
theorem drawParityCnf_ok {code : List Int} (hc : CodeOK code) : CtrR Tryz.prog 6 [.d (D.bytes code)] [] [] true fun r oo => oo=[]∧QG r:=by
 have c1:=drawIsCharged_ok hc
 refine CtrR.ofO (n:=5) (rs:=[.cell 2 27]) Tryz.func6 rfl rfl Tryz.ntmps6 rfl rfl (by kernel_rfl) Tryz.checked.mixed ?_; intro u
 refine Ok.endsW ?_
 refine Ok.seq (Ok.go ?_)
 simp (disch:=first | omega | decide +kernel) only [go_sem,Qa,Qb,Qc,Qd,Qe,↓reduceIte,reduceCtorEq,Qf,Qg,Qh]
 refine Ok.go ?_
 simp (disch:=first | omega | decide +kernel) only [go_sem,Qa,Qb,Qc,Qd,Qe,↓reduceIte,reduceCtorEq,Qf,Qg,Qh]
 refine yv7 c1 ⟨.inl rfl,trivial⟩ (by simp [dstB]) ?_
 rintro _ ⟨g,rfl,hg1,hg2⟩
 simp (disch:=first | omega | decide +kernel) only [D.chg,D.ints,go_sem,Qa,Qb,Qc,Qd,Qe,↓reduceIte,reduceCtorEq,Qf,Qg,Qh]
 (repeat' (first | ((first | (refine xa0 ?_ ?_<;>intro q'<;>(have h':=q')<;>(try simp only [zz] at h')<;>try (exfalso; omega)) | (have q':=trivial; first | refine hE _ _ xa5 ?_ | refine hE _ _ xa2 ?_))<;>(try simp (disch:=first | omega | decide +kernel) only [q',go_sem,Qa,Qb,Qc,Qd,Qe,↓reduceIte,reduceCtorEq,Qf,Qg,Qh])<;>clear q') | (with_reducible first | refine And.intro ?_ ?_ | omega) | exact xa6 | (refine xa1 ?_; omega) | (refine za9 ⟨?_,?_⟩) | (simp only [go_sem,Qc,Qb,zb1,zb2,forall_eq]; done)))
 refine zu9 [] ?_
 exact zq3 rfl rfl (by simp only [go_sem]) (by simp only [go_sem,List.length_cons,List.length_nil]) rfl (by simp only [go_sem]) ⟨rfl,g,rfl,hg1,hg2⟩
set_option maxHeartbeats 4000000 in
theorem bits6_ok {code : List Int} (hc : CodeOK code) (n : Int) (hn : 0<=n∧n<=60) : zg2 57 [.d (.int .i64 n)] 10 (QI fun x => -1<=x∧x<=65535) code:=fun at_ seed h1 h2 h3 => by
 have o20:=zq8 hc 20 (by omega)
 have c1:=l2Vars_ok n
 have m1:=zd5 n 0
 have m2:=yg3 (max n 0) 13
 have m3:=yg3 n 7
 obtain ⟨p,hp⟩ : ∃ p : Nat,min (max n 0) 13=(p : Int):=⟨(min (max n 0) 13).toNat,by omega⟩
 obtain ⟨q,hq⟩ : ∃ q : Nat,min n 7=(q : Int):=⟨(min n 7).toNat,by omega⟩
 have hp2 : 2 ^ p<=2 ^ 13:=Nat.pow_le_pow_right (by decide) (by omega)
 have hq2 : 2 ^ q<=2 ^ 7:=Nat.pow_le_pow_right (by decide) (by omega)
 have e1 : IntKind.wrap .i64 (1 * 2 ^ min p 64)=((2 ^ p : Nat) : Int):=xu1 (by omega)
 have e2 : IntKind.wrap .i64 (1 * 2 ^ min q 64)=((2 ^ q : Nat) : Int):=xu1 (by omega)
 rw [hp] at m2
 rw [hq] at m3
 generalize 2 ^ p=P2 at *
 generalize 2 ^ q=Q2 at *
 have aL:=yr4 hc [-1,0,4096,(P2 : Nat)] (-1) 8192 (by simp) (by simp; omega)
 have dE:=xm5 hc (Q2 : Nat) (by omega)
 simp only [List.map_cons,List.map_nil] at aL
 refine CtrR.of (n:=24) (rs:=[.tmp 4]) Tryz.func57 rfl rfl Tryz.ntmps57 rfl rfl (by kernel_rfl) Tryz.checked.mixed ?_; intro u
 simp (disch:=first | omega | decide +kernel) only [curO,curB,D.bytes,e1,e2,Int.toNat_natCast,go_sem,Qa,Qb,Qc,Qd,Qe,↓reduceIte,reduceCtorEq,Qf,Qg,Qh]
 (repeat' (first | ((first | (refine xa0 ?_ ?_<;>intro q'<;>(have h':=q')<;>(try simp only [zz] at h')<;>try (exfalso; omega)) | (have q':=trivial; first | (refine xc5 _ (o20) ⟨.inl rfl,.inl rfl,trivial⟩ rfl (by simp [dstB]) (by omega) (by omega) (by omega) ?_; rintro _ ata sda hata1 hata2 hsda1 hsda2 ⟨xa,rfl,hxa⟩) | refine xa3 (c1) rfl (by decide) ?_ | refine xa4 (c1) rfl ?_ | refine xa3 (m1) rfl (by decide) ?_ | refine xa4 (m1) rfl ?_ | refine xa3 (m2) rfl (by decide) ?_ | refine xa4 (m2) rfl ?_ | refine xa3 (m3) rfl (by decide) ?_ | refine xa4 (m3) rfl ?_ | (refine yb3 _ _ (aL) ⟨.inl rfl,.inl rfl,trivial⟩ rfl rfl (by decide) (by simp [dstB]) (by omega) (by omega) (by omega) ?_; rintro _ at1 sd1 hat1 hat2 hsd1 hsd2 ⟨x1,rfl,hx1⟩) | (refine xc5 _ (dE) ⟨.inl rfl,.inl rfl,trivial⟩ rfl (by simp [dstB]) (by omega) (by omega) (by omega) ?_; rintro _ atb sdb hatb1 hatb2 hsdb1 hsdb2 ⟨xb,rfl,hxb⟩) | refine hE _ _ xa5 ?_ | refine hE _ _ xa2 ?_))<;>(try simp (disch:=first | omega | decide +kernel) only [q',curO,curB,D.bytes,e1,e2,Int.toNat_natCast,go_sem,Qa,Qb,Qc,Qd,Qe,↓reduceIte,reduceCtorEq,Qf,Qg,Qh])<;>clear q') | (with_reducible first | refine And.intro ?_ ?_ | omega) | exact xa6 | (refine xa1 ?_; omega) | (refine za9 ⟨?_,?_⟩) | (simp only [go_sem,Qc,Qb,zb1,zb2,forall_eq]; done)))
 all_goals (first | exact yc5 rfl rfl rfl (by omega) (by omega) (by omega) (by omega) ⟨_,rfl,by omega,by omega⟩)
@[reducible] def QW : AV->Prop:=fun r => ∃ x : Chg × Int,r=.tup [.d (D.chg x.1),.d (.int .i64 x.2)]∧x.1.ed.length<=60∧x.1.ch.length<=60∧-1<=x.2∧x.2<=65535
set_option maxHeartbeats 4000000 in
theorem drawWrong_ok {code : List Int} (hc : CodeOK code) : CtrR Tryz.prog 19 [.d (D.bytes code)] [] [] true fun r oo => oo=[]∧QW r:=by
 have c1:=yv4 hc
 have c2:=fun n hn => bits6_ok hc n hn
 refine CtrR.ofO (n:=17) (rs:=[.cell 2 27,.tmp 3]) Tryz.func19 rfl rfl Tryz.ntmps19 rfl rfl (by kernel_rfl) Tryz.checked.mixed ?_; intro u
 refine Ok.endsW ?_
 refine Ok.seq (Ok.go ?_)
 simp (disch:=first | omega | decide +kernel) only [curO,curB,D.bytes,go_sem,Qa,Qb,Qc,Qd,Qe,↓reduceIte,reduceCtorEq,Qf,Qg,Qh]
 refine Ok.seq (Ok.go ?_)
 simp (disch:=first | omega | decide +kernel) only [curO,curB,D.bytes,go_sem,Qa,Qb,Qc,Qd,Qe,↓reduceIte,reduceCtorEq,Qf,Qg,Qh]
 refine Ok.seq (Ok.go ?_)
 simp (disch:=first | omega | decide +kernel) only [curO,curB,D.bytes,go_sem,Qa,Qb,Qc,Qd,Qe,↓reduceIte,reduceCtorEq,Qf,Qg,Qh]
 refine xc5 (at_:=0) _ c1 ⟨.inl rfl,trivial⟩ rfl (by simp [dstB]) (by omega) (by omega) (by omega) ?_
 rintro _ ata sda hata1 hata2 hsda1 hsda2 ⟨g,rfl,hg1,hg2⟩
 have c3:=c2 (g.ed.length : Nat) (by omega)
 simp (disch:=first | omega | decide +kernel) only [curO,curB,D.bytes,D.chg,D.ints,go_sem,Qa,Qb,Qc,Qd,Qe,↓reduceIte,reduceCtorEq,Qf,Qg,Qh]
 (repeat' (first | ((first | (refine xa0 ?_ ?_<;>intro q'<;>(have h':=q')<;>(try simp only [zz] at h')<;>try (exfalso; omega)) | (have q':=trivial; first | refine xa3 (curO,curB,D.bytes) rfl (by decide) ?_ | refine xa4 (curO,curB,D.bytes) rfl ?_ | refine hE _ _ xa5 ?_ | refine hE _ _ xa2 ?_))<;>(try simp (disch:=first | omega | decide +kernel) only [q',go_sem,Qa,Qb,Qc,Qd,Qe,↓reduceIte,reduceCtorEq,Qf,Qg,Qh])<;>clear q') | refine hN _ ?_ ?_ Wk.kk | (with_reducible first | refine And.intro ?_ ?_ | omega) | exact xb8 | exact xa8 | exact xa6 | with_reducible exact xa7 | (refine xa1 ?_; omega) | (refine za9 ⟨?_,?_⟩) | (simp only [go_sem,Qc,Qb,zb1,zb2,forall_eq]; done)))
 refine Ok.seq (Ok.reg8 [true,true,true,true,true,false,false,false] (by decide +kernel) ?_)
 simp (disch:=first | omega | decide +kernel) only [curO,curB,D.bytes,List.length_map,go_sem,Qa,Qb,Qc,Qd,Qe,↓reduceIte,reduceCtorEq,Qf,Qg,Qh]
 (repeat' (first | ((first | (refine xa0 ?_ ?_<;>intro q'<;>(have h':=q')<;>(try simp only [zz] at h')<;>try (exfalso; omega)) | (have q':=trivial; first | (refine xc5 _ (c3) ⟨.inl rfl,.inl rfl,trivial⟩ rfl (by simp [dstB]) (by omega) (by omega) (by omega) ?_; rintro _ atb sdb hatb1 hatb2 hsdb1 hsdb2 ⟨xb,rfl,hxb⟩) | refine hE _ _ xa5 ?_ | refine hE _ _ xa2 ?_))<;>(try simp (disch:=first | omega | decide +kernel) only [q',curO,curB,D.bytes,List.length_map,go_sem,Qa,Qb,Qc,Qd,Qe,↓reduceIte,reduceCtorEq,Qf,Qg,Qh])<;>clear q') | refine hN _ ?_ ?_ Wk.kk | (with_reducible first | refine And.intro ?_ ?_ | omega) | exact xb8 | exact xa8 | exact xa6 | with_reducible exact xa7 | (refine xa1 ?_; omega) | (refine za9 ⟨?_,?_⟩) | (simp only [go_sem,Qc,Qb,zb1,zb2,forall_eq]; done)))
 all_goals refine Ok.go ?_
 all_goals simp (disch:=first | omega | decide +kernel) only [go_sem,Qa,Qb,Qc,Qd,Qe,↓reduceIte,reduceCtorEq,Qf,Qg,Qh]
 all_goals refine zu9 [] ?_
 all_goals exact retR_cvq rfl rfl rfl (by simp only [go_sem]) (by simp only [go_sem,List.length_cons,List.length_nil]) rfl (by simp only [go_sem]) ⟨rfl,(g,xb),rfl,hg1,hg2,hxb.1,hxb.2⟩
end Abs.Y

namespace Go.Proofs
open Go.RowKit Go.Shelf
attribute [local go_sem] Oper.semAt_some
set_option maxRecDepth 100000 in
set_option maxHeartbeats 2000000 in
theorem Tryz.backR_in (l Bs Bo len : Nat) (hlen : len<=4294967296) (J : Nat->World->Prop)
 (hJ : ∀ k W,J k W->∃ (b off cap : Nat) (c0 c1 : Nat->Value),W.cell? ⟨Bs,Bo,none⟩=some (.slice (some ⟨b,off,none⟩) len cap)∧(∀ i,i < len->W.cell? ⟨b,off + i * 2,none⟩=some (c0 i)∧W.cell? ⟨b,off + i * 2 + 1,none⟩=some (c1 i)) ∧
  (k < len->YieldAt Fence.wide 0 Tryz.prog l #[.int .i64 ((len - 1 - k : Nat) : Int),.agg #[c0 (len - 1 - k),c1 (len - 1 - k)]] W fun e W' => e=.returned (.bool true)∧J (k + 1) W'))
 (W : World) (h0 : J 0 W) :
 CallsIn Fence.wide 0 Tryz.prog 86 #[.func (.yield l) #[] #[],.pointer (some ⟨Bs,Bo,none⟩)] W fun e W' => (∃ v,e=.returned v)∧J len W':=by
 refine callsIn_of_wp Tryz.func86 rfl trivial ?_ rfl
 simp only [Tryz.ntmps86,List.size_toArray,List.length_cons,List.length_nil,Qc,Qe,Array.replicate_succ,Array.replicate_zero,List.push_toArray,List.append_toArray,List.nil_append,List.cons_append]
 obtain ⟨b,off,cap,c0,c1,hs,hc,_⟩:=hJ 0 W h0
 gi_wp2
 gi_loopw [3] (fun i wr => ∃ k : Nat,k<=len∧i=.int .i64 ((len : Int) - 1 - k)∧J k wr)
  (fun i _ => (intOf i + 1).toNat)
 case atStart => exact ⟨0,Nat.zero_le _,by simp,h0⟩
 case round =>
  obtain ⟨k,hk,rfl,hJs⟩:=hrel
  obtain ⟨b,off,cap,c0,c1,hs,hc,hY⟩:=hJ k _ hJs
  by_cases hlt : k < len
  . obtain ⟨fn,tmps,assign,body,hy,hR⟩:=hY hlt
    obtain ⟨hc0,hc1⟩:=hc (len - 1 - k) (by omega)
    have h0' : (0 : Int)<=(len : Int) - 1 - k:=by omega
    obtain ⟨q,hq⟩ : ∃ q : Nat,(len : Int) - 1 - k=q:=⟨len - 1 - k,by omega⟩
    have hqn : len - 1 - k=q:=by omega
    rw [hqn] at hy hc0 hc1
    rw [hq] at h0' ⊢
    gi_wp2
    refine ⟨rfl,hR.mono ?_⟩
    rintro e W3 ⟨rfl,hJ3⟩
    gi_wp2
    go_roundw
    case rel => exact ⟨k + 1,by omega,by simp; omega,hJ3⟩
    case measure => simp [intOf]
  . obtain rfl : k=len:=by omega
    gi_wp2
    go_end0
    exact ⟨⟨_,rfl⟩,hJs⟩
set_option maxRecDepth 100000 in
set_option maxHeartbeats 1000000 in
theorem Tryz.backR_none (l Bs Bo : Nat) (a : Option Addr) (cap : Nat) (J : World->Prop) (W : World) (hs : W.cell? ⟨Bs,Bo,none⟩=some (.slice a 0 cap)) (h0 : J W) :
 CallsIn Fence.wide 0 Tryz.prog 86 #[.func (.yield l) #[] #[],.pointer (some ⟨Bs,Bo,none⟩)] W fun e W' => (∃ v,e=.returned v)∧J W':=by
 refine callsIn_of_wp Tryz.func86 rfl trivial ?_ rfl
 simp only [Tryz.ntmps86,List.size_toArray,List.length_cons,List.length_nil,Qc,Qe,Array.replicate_succ,Array.replicate_zero,List.push_toArray,List.append_toArray,List.nil_append,List.cons_append]
 gi_wp2
 gi_loopw [3] (fun i wr => i=.int .i64 (-1)∧J wr) (fun _ _ => 0)
 case atStart => exact ⟨rfl,h0⟩
 case round =>
  obtain ⟨rfl,hJs⟩:=hrel
  gi_wp2
  go_end0
  exact ⟨⟨_,rfl⟩,hJs⟩
end Go.Proofs

namespace Abs
open Go Go.RowKit

theorem xm7 {w : World} {base e size v n xs} (h : w.ownsRow base e size v n xs) {b : Nat} (hb : v.ownBlock=some b) : xd6 w b:=by
 rcases h.2 with ⟨rfl,_⟩ | ⟨g,cap,cur,rfl,_,hg,_⟩
 . cases hb
 . cases hb; exact ⟨_,hg,rfl⟩
theorem Dp.onlyF {w x v F} (h : Dp w x v F) : Dp w x v (fun g => F g∧xd6 w g):=by
 induction h with
 | int k n => exact .int k n _
 | bool b => exact .bool b _
 | str s => exact .str s _
 | nil v _ h => exact .nil v _ h
 | sl1 _ h0 ih => exact .sl1 ih fun e => (h0 e).imp id fun ⟨e',h1,h2⟩ => ⟨e',h1,fun b hb => ⟨h2 b hb,xm7 h1 hb⟩⟩
 | slice xs fs hk0 hk hw hb hf hd _ ih =>
   exact .slice xs (fun i g => fs i g∧xd6 _ g) hk0 hk hw (fun b hbb => ⟨⟨(hb b hbb).1,xm7 hw hbb⟩,fun i h => (hb b hbb).2 i h.1⟩) (fun i g h => ⟨hf i g h.1,h.2⟩) (fun i j g h h' => hd i j g h.1 h'.1) ih
theorem yf9 {w : World} {base e size v n xs} (h : w.ownsRow base e size v n xs) : (fun g => ownS v g∧xd6 w g)=ownS v :=
 funext fun g => propext ⟨fun h => h.1,fun hg => ⟨hg,xm7 h hg⟩⟩
theorem OK.onlyF {β S w o v F} (h : OK β S w o v F) : OK β S w o v (fun g => F g∧xd6 w g):=by
 cases h with
 | box hF xs hv hw hr => subst hF; exact .box (yf9 hw) xs hv hw hr
 | arr hF xs hk0 hk hw hr => subst hF; exact .arr (yf9 hw) xs hk0 hk hw hr
 | arv hF xs hv hk0 hk hw hr => subst hF; exact .arv (yf9 hw) xs hv hk0 hk hw hr
 | res hv hc fs hr hf hd =>
   exact .res hv (fun g hg => hc g hg.1) (fun i g => fs i g∧xd6 w g) (fun i hi => (hr i hi).onlyF) (fun i g hg => ⟨hf i g hg.1,hg.2⟩) fun i j g h1 h2 => hd i j g h1.1 h2.1
 | arw hlt xs hk0 hk hw hb hr hv =>
   refine .arw (fun g hg => hlt g hg.1) xs hk0 hk hw (fun b h => ⟨hb b h,xm7 hw h⟩) hr fun q n hq => ?_
   obtain ⟨h1,b,c,h2,h3,h4⟩:=hv q n hq
   refine ⟨h1,b,c,h2,fun h0 => ⟨h3 h0,?_⟩,h4⟩
   have h5:=h4 0 (Nat.mul_pos h0 hk0)
   exact yz1 (cells_of_cell h5)
 | d1 hlt h => exact .d1 (fun g hg => hlt g hg.1) h.onlyF
 | view hF b c hv => exact .view (funext fun g => propext ⟨fun h => by rw [hF] at h; exact h.1,fun h => h.elim⟩) b c hv
 | mp b ms c hF hv hbb he => subst hF; exact .mp b ms c (funext fun g => propext ⟨fun h => h.1,fun hg => ⟨hg,by subst hv; cases hg; exact ⟨_,hbb,rfl⟩⟩⟩) hv hbb he
 | dp hlt h =>
   refine .dp (fun g hg => hlt g hg.1) ?_
   rcases h with h | ⟨e,k,xs,fs,ht,h⟩
   . exact .inl h
   . exact .inr ⟨e,k,xs,fun i g => fs i g∧xd6 w g,ht,h.hk0,h.hk,h.hw,fun b hb => ⟨⟨(h.hb b hb).1,xm7 h.hw hb⟩,fun i hh => (h.hb b hb).2 i hh.1⟩,fun i g hh => ⟨h.hf i g hh.1,hh.2⟩,
      fun i j g h1 h2 => h.hd i j g h1.1 h2.1,fun i hi hn => (h.hr i hi hn).onlyF,fun c d hcd => ⟨(h.hh c d hcd).1,(h.hh c d hcd).2.1,(h.hh c d hcd).2.2.1,fun g hg => (h.hh c d hcd).2.2.2 g hg.1⟩⟩
section
variable {Z : Nat->Prop} {β : Nat->Value} {φ : Nat->Nat->Prop} {N B : Nat} {M : Nat->Prop} {w0 : World} {st : St} {a : Act} {w : World}
theorem xu9 {φ' : Nat->Nat->Prop} {o : List (Nat × AO)} (hφ : ∀ j g,φ' j g->φ j g) {g} (h : free Z φ o g) : free Z φ' o g:=⟨h.1,fun j x hj hx hg => h.2 j x hj hx (hφ j g hg)⟩
theorem SimB.turn (h : SimB Z β φ N B M w0 st a w) {l : Nat} {r : Loop} (o' : Obj) (hl : w.heap[l]? = some (.loop r)) (hB : B<=l) : SimB Z β (fun j g => φ j g∧xd6 w g) N B M w0 st a (w.putObj l o'):=by
 have hb : ∀ g,g ≠ l->(w.putObj l o').heap[g]? = w.heap[g]? := fun g hg => World.putObj_heap_other hg
 have hcl : ∀ g,xd6 w g->g ≠ l:=fun g ⟨o,ho,hc⟩ e => by subst e; rw [hl] at ho; cases ho; cases hc
 have hm : ∀ g,(free Z φ st.o g∧xd6 w g)->g < w.heap.size->free Z (fun j g => φ j g∧xd6 w g) st.o g∧(w.putObj l o').heap[g]? = w.heap[g]? := fun g hg _ => ⟨xu9 (fun _ _ h => h.1) hg.1,hb g (hcl g hg.2)⟩
 refine ⟨⟨fun c hc => ?_,h.nd.apart⟩,h.size,fun i av hi => ((h.slots i av hi).only).move hm,fun j o hj => (((h.objs j o hj).onlyF).only).move hm (by simp) fun g hg => hb g (hcl g hg.2),fun j o g hj hg => h.own j o g hj hg.1,fun j j' o o' g hj hj' hg hg' => h.disj j j' o o' g hj hj' hg.1 hg'.1,
  ⟨h.fr.os,h.fr.tape,h.fr.output,by simpa using h.fr.le,by simpa using h.fr.size,fun g hgB hgM => (hb g (by omega)).trans (h.fr.block g hgB hgM),h.fr.drawn⟩,h.z⟩
 obtain ⟨D,h1,h2,h3,h4⟩:=h.nd.each c hc
 exact ⟨D,h1,xu9 (fun _ _ h => h.1) h2,h3,(hb D (by rintro rfl; rw [hl] at h4; cases h4)).trans h4⟩
theorem SimB.rebase (h : SimB Z β φ N B M w0 st a w) {w' : World} (hos : w'.heap.size=w.heap.size) (hb : ∀ g,xd6 w g->w'.heap[g]? = w.heap[g]?) (hd : ∀ D,xu4 D ∈ a.defers->w'.heap[D]? = w.heap[D]?) :
 SimB Z β (fun j g => φ j g∧xd6 w g) N w'.heap.size (fun g => xc6 (fun j g => φ j g∧xd6 w g) st.o g∨xu4 g ∈ a.defers) w' st a w':=by
 have hm : ∀ g,(free Z φ st.o g∧xd6 w g)->g < w.heap.size->free Z (fun j g => φ j g∧xd6 w g) st.o g∧w'.heap[g]? = w.heap[g]? := fun g hg _ => ⟨xu9 (fun _ _ h => h.1) hg.1,hb g hg.2⟩
 refine ⟨⟨fun c hc => ?_,h.nd.apart⟩,h.size,fun i av hi => ((h.slots i av hi).only).move hm,fun j o hj => (((h.objs j o hj).onlyF).only).move hm (by rw [hos]; exact Nat.le_refl _) fun g hg => hb g hg.2,fun j o g hj hg => .inr (.inl ⟨j,o,hj,hg⟩),
  fun j j' o o' g hj hj' hg hg' => h.disj j j' o o' g hj hj' hg.1 hg'.1,⟨rfl,rfl,rfl,Nat.le_refl _,Nat.le_refl _,fun _ _ _ => rfl,Nat.le_refl _⟩,fun g hg => ?_⟩
 . obtain ⟨D,h1,h2,h3,h4⟩:=h.nd.each c hc
   exact ⟨D,h1,xu9 (fun _ _ h => h.1) h2,.inr (.inr (h1 ▸ hc)),(hd D (h1 ▸ hc)).trans h4⟩
 . rcases hg with hg | ⟨j,o,hj,hg⟩ | hg
   . exact h.z g (.inl (by have:=h.fr.le; omega))
   . exact h.z g (h.own j o g hj hg.1)
   . obtain ⟨D,h1,h2,_⟩:=h.nd.each _ hg
     have : g=D:=by simpa [xu4] using h1
     subst this; exact h2.1
end

def zx3 (P : Program) (bf : Nat) (es : List D) : Prop :=
 ∀ (l : Nat) (pv : Value) (J : Nat->World->Prop) (W : World),
  (∀ k W,J k W->∃ S : Nat->Prop,Rd S W (.ptr (.slice es)) pv∧(k < es.length->∀ u,Rd S W (el es (es.length - 1 - k)) u ->
   YieldAt Fence.wide 0 P l #[.int .i64 ((es.length - 1 - k : Nat) : Int),u] W fun e W' => e=.returned (.bool true)∧J (k + 1) W')) ->
  J 0 W->CallsIn Fence.wide 0 P bf #[.func (.yield l) #[] #[],pv] W fun e W' => (∃ v,e=.returned v)∧J es.length W'

def zv7 (N : Nat) (u : Nat->Value) (keep : List Nat) (st : St) (J : St->Prop) : Exit->St->Prop:=fun e st' =>
 e=.normal∧∃ (ks : List Nat) (oo : List (Nat × AO)),(∀ p ∈ oo,lk p.1 st'.o=some p.2)∧(∀ j ∈ keep,lk (1000000000 + j) st'.s=some (.hdr j (u j))∧(lk j oo).isSome=true∧j ∉ ks) ∧
  (∀ p ∈ st.o,p.1 ∈ keep∨p.1 ∈ ks)∧(∀ p ∈ oo,p.1 ∈ keep∨p.1 ∈ ks)∧∃ st2,Wk N (impM st none (fun j => j) ks (.tup []) oo) st2∧J st2

theorem SimB.roundBack {Z : Nat->Prop} {β β3 : Nat->Value} {φ φ3 : Nat->Nat->Prop} {N B B3 : Nat} {M M3 : Nat->Prop} {w0 w3 : World} {st st' : St} {a a3 : Act} {w w4 : World} {keep : List Nat} {J : St->Prop}
 (h : SimB Z β φ N B M w0 st a w) (hE : zv7 N β keep st J .normal st') (h3 : SimB Z β3 φ3 N B3 M3 w3 st' a3 w4) (hown : ∀ j g,φ3 j g->(∃ o,lk j st'.o=some o)->w.heap.size<=g∨xc6 φ st.o g)
 (hf : Fr w.heap.size (xc6 φ st.o) w w4) (hres : ∀ j o,lk j st.o=some o->o.isRes=false) : ∃ st2,Sim Z N B M w0 st2 a w4∧J st2:=by
 obtain ⟨_,ks,oo,h1,h2,h4,h5,st2,hw,hJ⟩:=hE
 have hlko : ∀ {j o},lk j oo=some o->lk j st'.o=some o:=fun hj => h1 _ (xe9 hj)
 have hr : yr9 (fun g => w.heap.size<=g∨xc6 φ st.o g∨free Z φ st.o g) (fun g => w.heap.size<=g∨xc6 φ st.o g) β keep w4 (.tup []) oo (.tuple #[]):=by
  refine ⟨β3,φ3,fun j hj => ?_,Rel.tup (xs:=[]) (vs:=[]) rfl (by simp),fun j o hj => ?_,fun j o g hj hg => hown j g hg ⟨o,hlko hj⟩,fun j j' o o' g hj hj' hg hg' => h3.disj j j' o o' g (hlko hj) (hlko hj') hg hg'⟩
  . have:=h3.slots _ _ (h2 j hj).1
    cases this with
    | hdr e => exact e
  . refine (h3.objs j o (hlko hj)).move (fun g hg hlt => ⟨⟨?_,fun i x hi => hg.2 i x (hlko hi)⟩,rfl⟩) (Nat.le_refl _) fun _ _ => rfl
    by_cases e1 : w.heap.size<=g
    . exact .inl e1
    . by_cases e2 : xc6 φ st.o g
      . exact .inr (.inl e2)
      . exact .inr (.inr ⟨hg.1,fun i x hi _ hgi => e2 ⟨i,x,hi,hgi⟩⟩)
 have key : ∀ {l : List (Nat × AO)} {j : Nat},(∀ p ∈ l,p.1 ∈ keep∨p.1 ∈ ks)->(lk j l).isSome=true->j ∉ keep->j ∈ ks:=fun {l j} hl hj hn => by
  obtain ⟨o,ho⟩:=Option.isSome_iff_exists.1 hj
  exact (hl _ (xe9 ho)).resolve_left hn
 have hs:=h.impM (dst:=none) (ρ:=fun j => j) (κ:=fun j => j) (ks:=ks) (keep:=keep) (oi:=st.o) (res:=.tup []) (oo:=oo) (v:=.tuple #[]) (fun j o hj => ⟨o,hj,hres j o hj⟩) hf hr
  (fun g hg => hg) (fun g hg => hg) (fun j hj => ⟨rfl,(h2 j hj).2.1,(h2 j hj).2.2⟩) (fun j hj hn => key h4 hj hn) (fun j hj hn => key h5 hj hn) (fun j j' _ _ e => e) (fun d hd => by cases hd)
 obtain ⟨β',φ',hB⟩:=hs
 exact ⟨st2,hw _ _ _ _ _ _ _ _ hB,hJ⟩

theorem lk_marksA_app {u : Nat->Value} {keep : List Nat} {s : List (Nat × AV)} {i : Nat} {av : AV} (h : lk i (xr0 u keep++s)=some av) : (∃ j,av=.hdr j (u j))∨lk i s=some av:=by
 rw [zc8] at h
 split at h
 . rename_i v hv; cases h; exact .inl (yo4 hv)
 . exact .inr h

theorem Ok.rangeBack {P : Program} {N : Nat} {g : Operand} {p0 p1 : Nat} {asg body : Code} {Q : Exit->St->Prop} {S : List (Nat × AV)} {O : List (Nat × AO)} {bf : Nat} {es : List D}
 (he : ∀ args w,(callFunc bf args).run P w=.ok (.enter bf args) w) (hit : zx3 P bf es)
 (hp : p0 < N∧p1 < N) (hok : (xh4 (.seq asg body) && yq5 (.seq asg body))=true) (keep : List Nat) (I : Nat->St->Prop) (h0 : ∃ st,Wk N ⟨S,O⟩ st∧I 0 st)
 (hres : ∀ k st,I k st->∀ j o,lk j st.o=some o->o.isRes=false) (hI : ∀ k st,I k st->(ev st g).map fnOf=some (.fn (.func bf) [.d (.ptr (.slice es))]))
 (hr : ∀ k st,k < es.length->I k st->∀ u : Nat->Value,Awp P N (.seq asg body) (zv7 N u keep st (I (k + 1))) ⟨xr0 u keep++ins p1 (.d (el es (es.length - 1 - k))) (ins p0 (.d (.int .i64 ((es.length - 1 - k : Nat) : Int))) st.s),st.o⟩)
 (hd : ∀ st,I es.length st->Q .normal st) : Ok P N (.rangeFunc g #[p0,p1] asg body) Q ⟨S,O⟩:=by
 intro _ hm Z B M w0 a w ⟨β00,φ00,hs00⟩
 obtain ⟨st0,hw0,hI0⟩:=h0
 obtain ⟨β0,φ0,hs⟩:=hw0 _ _ _ _ _ _ _ _ hs00
 simp only [Bc] at hok
 obtain ⟨hok1,hcalm⟩:=hok
 have hok2:=hok1
 have hcalm2:=hcalm
 simp only [xh4,Bc] at hok2
 simp only [yq5,Bc] at hcalm2
 show (Code.rangeFunc g #[p0,p1] asg body).wp P (lift Z N B M w0 Q) a w
 -- the function's value
 have hval : ∀ {k st β φ B' M' w0' a' W},I k st->SimB Z β φ N B' M' w0' st a' W->∃ pv,a'.eval g=.func (.func bf) #[] #[pv]∧Rd (free Z φ st.o) W (.ptr (.slice es)) pv:=fun {k st β φ B' M' w0' a' W} hk h => by
  have h1:=hI k st hk
  cases hx : ev st g with
  | none => rw [hx] at h1; cases h1
  | some av =>
    rw [hx] at h1
    simp only [Option.map_some,Option.some.injEq] at h1
    have h2:=zm9 (xc8 h hx)
    rw [h1] at h2
    generalize a'.eval g=v at *
    cases h2 with
    | fn hl hr =>
      rename_i us
      match us,hl with
      | [pv], _ =>
        have h3:=hr 0 (by simp)
        simp only [List.getD_cons_zero] at h3
        cases h3 with
        | d h3 => exact ⟨pv,rfl,h3⟩
 obtain ⟨pv,hgv,_⟩:=hval hI0 hs
 refine (wpIn_wide (n:=1)).1 (wpIn_rangeFunc fun fn hfn => ?_)
 obtain ⟨rec,hrec⟩ : ∃ rec : LoopState->Option Code->Loop,rec=fun st pe => { state:=st,pending:=pe,fn,tmps:=a.tmps,params:=#[p0,p1],assign:=asg,body,defers:=w.heap.size }:=⟨_,rfl⟩
 obtain ⟨W1,hW1⟩ : ∃ W1,(w.alloc (.deferred (some []))).alloc (.loop (rec .ready none))=W1:=⟨_,rfl⟩
 have hL1 : W1.heap[w.heap.size + 1]? = some (.loop (rec .ready none)):=by
  rw [← hW1]; have:=World.alloc_heap_new (w.alloc (.deferred (some []))) (.loop (rec .ready none)); rwa [World.size_alloc] at this
 have hK1 : W1.heap[w.heap.size]? = some (.deferred (some [])):=by
  rw [← hW1]; exact (Below.heap_alloc _ _ _ (by simp)).trans (World.alloc_heap_new w _)
 have hBw:=hs.fr.le
 let ap : Act:={ a with defers:=xu4 w.heap.size :: a.defers }
 -- the state behind the entry
 have hsim1 : SimB Z β0 φ0 N B M w0 st0 ap W1:=by
  have hg1 : Gb w W1 none:=by
   rw [← hW1]
   exact ⟨⟨rfl,rfl,rfl,by simp; omega,fun g hg _ => by
    rw [Below.heap_alloc _ _ _ (by simp; omega),Below.heap_alloc _ _ _ hg]⟩,Nat.le_refl _⟩
  have h1:=hs.grown hg1
  refine { h1 with nd:=⟨fun c hc => ?_,?_⟩ }
  . rcases List.mem_cons.1 hc with rfl | hc
    . exact ⟨w.heap.size,rfl,⟨hs.z _ (.inl hBw),fun j o hj _ hg => by have:=(hs.objs j o hj).block_lt hg; omega⟩,.inl hBw,hK1⟩
    . exact h1.nd.each c hc
  . refine List.pairwise_cons.2 ⟨fun c hc e => ?_,h1.nd.apart⟩
    obtain ⟨D,h2,_,_,h3⟩:=hs.nd.each c hc
    rw [h2] at e
    have : w.heap.size=D:=by simpa [xu4] using e
    have:=(Array.getElem?_eq_some_iff.1 h3).1
    omega
 refine ⟨w.heap.size + 1,[xu4 w.heap.size],W1,{ target:=.fn (.func bf) #[pv],args:=#[.func (.yield (w.heap.size + 1)) #[] #[]] },W1,bf,
  #[.func (.yield (w.heap.size + 1)) #[] #[]]++#[pv],W1,?_,?_,?_,?_,fun h => by simp [Fence.wide] at h,?_⟩
 . rw [← hW1,hrec]; exact run_enterLoop_outer _ _ _ _ _
 . simp only [resolve,hgv]
   simp [go_sem]
 . intro f' hf'; trivial
 . simp [invoke,go_sem,he]
 -- the iterator's contract
 refine (hit (w.heap.size + 1) pv (fun k W => ∃ st β φ,I k st∧SimB Z β φ N B M w0 st ap W∧W.heap[w.heap.size + 1]? = some (.loop (rec .ready none))) W1 (fun k W ⟨st,β,φ,hk,h,hl⟩ => ?_) ⟨st0,β0,φ0,hI0,hsim1,hL1⟩).mono ?_
 . obtain ⟨pv',hgv',hRd⟩:=hval hk h
   have hpv : pv'=pv:=by
    have : ap.eval g=a.eval g:=by cases g<;>rfl
    rw [this,hgv] at hgv'
    simpa using hgv'.symm
   subst hpv
   refine ⟨free Z φ st.o,hRd,fun hklt u1 hu1 => ?_⟩
   have hlt : w.heap.size + 1 < W.heap.size:=(Array.getElem?_eq_some_iff.1 hl).1
   have hy:=run_yield (P:=P) (args:=#[.int .i64 ((es.length - 1 - k : Nat) : Int),u1]) hl (by rw [hrec]; simp)
   rw [hrec] at hy
   refine ⟨fn,_,asg,body,hy,roundIn_of_wpIn trivial ?_⟩
   have hnc : ¬ xd6 W (w.heap.size + 1):=fun ⟨o,ho,hc⟩ => by rw [hl] at ho; cases ho; cases hc
   -- the outer state,all of whose memory is cells
   have hO : SimB Z β (fun j g => φ j g∧xd6 W g) N B M w0 st ap W:=by
    have h1:=h.turn (.loop (rec .ready none)) hl (by omega)
    have e : W.putObj (w.heap.size + 1) (.loop (rec .ready none))=W:=by
     obtain ⟨hp,tp,dr,os,ou⟩:=W
     simp only [World.putObj]
     congr 1
     apply Array.ext_getElem?
     intro i
     simp only [Array.getElem?_setIfInBounds]
     simp only at hl
     split
     . rename_i e; subst e
       exact hl.symm
     . rfl
    rwa [e] at h1
   -- the round's own beginning
   let act : Act:={ tmps:=(a.tmps.setIfInBounds p0 (.int .i64 ((es.length - 1 - k : Nat) : Int))).setIfInBounds p1 u1,defers:=[] }
   have hin : SimB Z β (fun j g => φ j g∧xd6 W g) N W.heap.size (fun g => xc6 (fun j g => φ j g∧xd6 W g) st.o g∨xu4 g ∈ act.defers) W ⟨xr0 β keep++ins p1 (.d (el es (es.length - 1 - k))) (ins p0 (.d (.int .i64 ((es.length - 1 - k : Nat) : Int))) st.s),st.o⟩ act W:=by
    have h1 : SimB Z β φ N B M w0 st { a with defers:=[] } W:=⟨.nil,h.size,h.slots,h.objs,h.own,h.disj,h.fr,h.z⟩
    have h2:=h1.put (dst:=some p0) (v:=.d (.int .i64 ((es.length - 1 - k : Nat) : Int))) (u:=.int .i64 ((es.length - 1 - k : Nat) : Int)) (fun d e => by cases e; exact hp.1) (.d (.int _ _))
    have h3:=h2.put (dst:=some p1) (v:=.d (el es (es.length - 1 - k))) (u:=u1) (fun d e => by cases e; exact hp.2) (.d hu1)
    have h4 : SimB Z β φ N B M w0 ⟨xr0 β keep++ins p1 (.d (el es (es.length - 1 - k))) (ins p0 (.d (.int .i64 ((es.length - 1 - k : Nat) : Int))) st.s),st.o⟩ act W :=
     ⟨.nil,by simp [act]; exact h.size,fun i av hi => by
      rcases lk_marksA_app hi with ⟨j,rfl⟩ | hi
      . exact .hdr rfl
      . exact h3.slots i av hi,h.objs,h.own,h.disj,h.fr,h.z⟩
    exact h4.rebase rfl (fun _ _ => rfl) (fun _ _ => rfl)
   have hawp:=hr k st hklt hk β
   rw [xj8] at hawp
   have hsw:=xg9 asg _ _ hawp hok2.1 hm _ _ _ _ _ _ ⟨_,_,hin⟩
   have hact : ((#[p0,p1] : Array Tmp).zip #[Value.int .i64 ((es.length - 1 - k : Nat) : Int),u1]).foldl (fun tmps (t,a) => tmps.setIfInBounds t a) a.tmps=act.tmps:=by simp [act]
   simp only [hact]
   refine wpIn_mono (xl5 hm (w.heap.size + 1) 0 asg hcalm2.1 (fun ⟨_,_,h⟩ => h) hsw) fun e a1 w1 hl1 => ?_
   cases e with
   | normal =>
     obtain ⟨st1,⟨β1,φ1,h1⟩,hb1⟩:=hl1
     have hnb : ∀ g,¬ xd6 W g->g < W.heap.size->w1.heap[g]? = W.heap[g]? := fun g hg hlg => h1.fr.block g hlg fun hM => by
      rcases hM with ⟨j,o,hj,hgj⟩ | hM
      . exact hg hgj.2
      . simp [act] at hM
     have hlw1 : w1.heap[w.heap.size + 1]? = some (.loop (rec .ready none)):=(hnb _ hnc hlt).trans hl
     refine ⟨w1.putObj (w.heap.size + 1) (.loop { rec .ready none with state:=.busy }),run_beginRound hlw1 (by rw [hrec]),?_⟩
     have hcl1 : ∀ g,xd6 w1 g->g ≠ w.heap.size + 1:=fun g ⟨o,ho,hc⟩ e => by subst e; rw [hlw1] at ho; cases ho; cases hc
     have h2:=h1.rebase (w':=w1.putObj (w.heap.size + 1) (.loop { rec .ready none with state:=.busy })) (by simp) (fun g hg => World.putObj_heap_other (hcl1 g hg)) (fun D hD => World.putObj_heap_other (by
      rintro rfl
      obtain ⟨D,e1,_,_,e2⟩:=h1.nd.each _ hD
      have : w.heap.size + 1=D:=by simpa [xu4] using e1
      subst this
      rw [hlw1] at e2; cases e2))
     obtain ⟨w2,hw2⟩ : ∃ w2,w1.putObj (w.heap.size + 1) (.loop { rec .ready none with state:=.busy })=w2:=⟨_,rfl⟩
     rw [hw2] at h2 ⊢
     have hlw2 : w2.heap[w.heap.size + 1]? = some (.loop { rec .ready none with state:=.busy }):=by
      rw [← hw2]; exact World.putObj_heap_same (Array.getElem?_eq_some_iff.1 hlw1).1
     have hsw2:=xg9 body _ _ hb1 hok2.2 hm _ _ _ _ _ _ ⟨_,_,h2⟩
     refine wpIn_mono (xl5 hm (w.heap.size + 1) 0 body hcalm2.2 (fun ⟨_,_,h⟩ => h) hsw2) fun e a3 w3 hl3 => ?_
     cases e with
     | normal =>
       obtain ⟨st3,⟨β3,φ3,h3⟩,hE⟩:=hl3
       have hsz2 : w2.heap.size=w1.heap.size:=by rw [← hw2]; simp
       have hM2 : ∀ g,(xc6 (fun j g => φ1 j g∧xd6 w1 g) st1.o g∨xu4 g ∈ a1.defers)->W.heap.size<=g∨xc6 (fun j g => φ j g∧xd6 W g) st.o g:=fun g hg => by
        rcases hg with ⟨j,o,hj,hgj⟩ | hg
        . rcases h1.own j o g hj hgj.1 with h5 | h5 | h5
          . exact .inl h5
          . exact .inr h5
          . simp [act] at h5
        . obtain ⟨D,e1,_,h5,_⟩:=h1.nd.each _ hg
          have : g=D:=by simpa [xu4] using e1
          subst this
          rcases h5 with h5 | h5 | h5
          . exact .inl h5
          . exact .inr h5
          . simp [act] at h5
       have hlw3 : w3.heap[w.heap.size + 1]? = some (.loop { rec .ready none with state:=.busy }):=by
        refine (h3.fr.block _ (by rw [hsz2]; exact Nat.lt_of_lt_of_le hlt h1.fr.size) fun hM => ?_).trans hlw2
        rcases hM with ⟨j,o,hj,hgj⟩ | hM
        . exact hcl1 _ hgj.2 rfl
        . obtain ⟨D,e1,_,_,e2⟩:=h1.nd.each _ hM
          have : w.heap.size + 1=D:=by simpa [xu4] using e1
          subst this
          rw [hlw1] at e2; cases e2
       have hend : (Instr.endRound (w.heap.size + 1) none).run P w3=.ok (.bool true) (w3.putObj (w.heap.size + 1) (.loop (rec .ready none))):=by
        have:=run_endRound (P:=P) none hlw3
        rw [hrec] at this ⊢
        exact this
       refine ⟨_,_,hend,rfl,?_⟩
       have hcl3 : ∀ g,xd6 w3 g->g ≠ w.heap.size + 1:=fun g ⟨o,ho,hc⟩ e => by subst e; rw [hlw3] at ho; cases ho; cases hc
       have hlw4 : (w3.putObj (w.heap.size + 1) (.loop (rec .ready none))).heap[w.heap.size + 1]? = some (.loop (rec .ready none)):=World.putObj_heap_same (Array.getElem?_eq_some_iff.1 hlw3).1
       have h4:=h3.rebase (w':=w3.putObj (w.heap.size + 1) (.loop (rec .ready none))) (by simp) (fun g hg => World.putObj_heap_other (hcl3 g hg)) (fun D hD => World.putObj_heap_other (by
        rintro rfl
        obtain ⟨D,e1,_,_,e2⟩:=h3.nd.each _ hD
        have : w.heap.size + 1=D:=by simpa [xu4] using e1
        subst this
        rw [hlw3] at e2; cases e2))
       have hfr : Fr W.heap.size (xc6 (fun j g => φ j g∧xd6 W g) st.o) W (w3.putObj (w.heap.size + 1) (.loop (rec .ready none))):=by
        have f1:=h1.fr
        have f3:=h3.fr
        have e2 : w2.os=w1.os∧w2.tape=w1.tape∧w2.output=w1.output∧w2.drawn=w1.drawn:=by rw [← hw2]; exact ⟨rfl,rfl,rfl,rfl⟩
        refine ⟨(f3.os.trans e2.1).trans f1.os,(f3.tape.trans e2.2.1).trans f1.tape,(f3.output.trans e2.2.2.1).trans f1.output,?_,?_,fun g hg hgM => ?_,?_⟩
        . have:=f1.size; have:=f3.size; simp; omega
        . have:=f1.size; have:=f3.size; simp; omega
        . by_cases eg : g=w.heap.size + 1
          . subst eg; exact hlw4.trans hl.symm
          . have b1 : w1.heap[g]? = W.heap[g]? := f1.block g hg fun hM => by
             rcases hM with hM | hM
             . exact hgM hM
             . simp [act] at hM
            have b2 : w2.heap[g]? = w1.heap[g]? := by rw [← hw2]; exact World.putObj_heap_other eg
            have b3 : w3.heap[g]? = w2.heap[g]? := f3.block g (by rw [hsz2]; exact Nat.lt_of_lt_of_le hg f1.size) fun hM => by
             rcases hM2 g hM with h5 | h5
             . omega
             . exact hgM h5
            exact (World.putObj_heap_other eg).trans (b3.trans (b2.trans b1))
        . have:=f1.drawn; have:=f3.drawn; have:=e2.2.2.2
          show W.drawn<=w3.drawn
          omega
       obtain ⟨st2,⟨β4,φ4,h5⟩,hI4⟩:=hO.roundBack hE h4 (fun j g hg ⟨o,hj⟩ => by
        rcases h3.own j o g hj hg.1 with h6 | h6
        . left; have:=h1.fr.size; omega
        . exact hM2 g h6) hfr (hres k st hk)
       exact ⟨st2,β4,φ4,hI4,h5,hlw4⟩
     | ret => obtain ⟨st3,_,hE⟩:=hl3; exact absurd hE.1 (by simp)
     | exit id => obtain ⟨st3,_,hE⟩:=hl3; exact absurd hE.1 (by simp)
     | goto t => obtain ⟨st3,_,hE⟩:=hl3; exact absurd hE.1 (by simp)
     | panic ch => exact hl3.elim
     | outgrown => exact hl3.elim
   | ret => obtain ⟨st3,_,hE⟩:=hl1; exact absurd hE.1 (by simp)
   | exit id => obtain ⟨st3,_,hE⟩:=hl1; exact absurd hE.1 (by simp)
   | goto t => obtain ⟨st3,_,hE⟩:=hl1; exact absurd hE.1 (by simp)
   | panic ch => exact hl1.elim
   | outgrown => exact hl1.elim
 . rintro e W' ⟨⟨v,rfl⟩,st,β,φ,hk,h,hl⟩
   refine ⟨none,_,by have:=run_endLoop (P:=P) hl (by rw [hrec]; simp); rw [hrec] at this; exact this,?_⟩
   exact ⟨st,⟨β,_,h.turn _ hl (by omega)⟩,hd st hk⟩
theorem ym4 {S : Nat->Prop} {W : World} {es : List D} {pv : Value} {k : Nat} (hk : ∀ e ∈ es,e.cells.length=k) (h : Rd S W (.ptr (.slice es)) pv) :
 ∃ b o sv,pv=.pointer (some ⟨b,o,none⟩)∧W.cell? ⟨b,o,none⟩=some sv∧((es=[]∧∃ a cap,sv=.slice a 0 cap)∨(es ≠ []∧∃ (b2 off cap : Nat) (vs : Nat->Value),sv=.slice (some ⟨b2,off,none⟩) es.length cap ∧
  ∀ i j,i < es.length->j < k->W.cell? ⟨b2,off + (i * k + j),none⟩=some (vs (i * k + j))∧Rd S W ((el es i).cells.getD j .nilptr) (vs (i * k + j)))):=by
 cases h with
 | ptr vs0 hc0 hr0 =>
   rename_i b o
   have h1:=hc0 0 (by simp [D.cells])
   have h2:=hr0 0 (by simp [D.cells])
   simp only [D.cells,List.getD_cons_zero] at h2
   refine ⟨b,o,vs0 0,rfl,h1.2,?_⟩
   generalize vs0 0=sv at *
   cases h2 with
   | nil a => exact .inl ⟨rfl,a,0,rfl⟩
   | slice vs hk' hcap hc hr =>
     rename_i b2 off cap k'
     by_cases hes : es=[]
     . subst hes; exact .inl ⟨rfl,_,cap,rfl⟩
     . refine .inr ⟨hes,b2,off,cap,vs,rfl,fun i j hi hj => ?_⟩
       have hlen:=yy7 hk
       have hlt : i * k + j < (flat es).length:=by
        rw [hlen]
        have : (i + 1) * k<=es.length * k:=Nat.mul_le_mul_right k (by omega)
        rw [Nat.add_mul] at this; omega
       refine ⟨(hc _ hlt).2,?_⟩
       have:=hr _ hlt
       rw [yg8 hk hi hj] at this
       exact this
@[go_sem] theorem runO_assignF {P N ops dst ty r K st} : runO P N ops dst (.assign (.const .nilFunc)) ty r K st=onV (qv P st (.assign (.const .nilFunc))) (kPut P N ops dst r K st):=xg8 P N ops dst ty r K st rfl rfl (by simp)
end Abs

namespace Abs.Y
open Go Go.Proofs Abs
set_option maxRecDepth 100000

theorem yv5 {xs : List (Int × Int)} : ∀ y ∈ List.map D.ed xs,y.cells.length=2:=fun y hy => by
 obtain ⟨x,_,rfl⟩:=List.mem_map.1 hy; rfl
theorem iter_eds (l0 : List (Int × Int)) (hl : l0.length<=4294967296) : zx3 Tryz.prog 86 (l0.map D.ed):=by
 intro l pv J W hJ h0
 obtain ⟨S,hR,_⟩:=hJ 0 W h0
 obtain ⟨b,o,sv,rfl,hc,h⟩:=ym4 (k:=2) yv5 hR
 rcases h with ⟨he,a,cap,rfl⟩ | ⟨hne,_⟩
 . obtain rfl : l0=[]:=by cases l0 with
    | nil => rfl
    | cons a r => cases he
   exact Tryz.backR_none l b o a cap (J 0) W hc h0
 . refine Tryz.backR_in l b o _ (by simpa using hl) J (fun k W' hk => ?_) W h0
   obtain ⟨S',hR',hY⟩:=hJ k W' hk
   obtain ⟨b',o',sv',e,hc',h'⟩:=ym4 (k:=2) yv5 hR'
   cases e
   rcases h' with ⟨he,_⟩ | ⟨_,b2,off,cap,vs,rfl,hcs⟩
   . exact absurd he hne
   . refine ⟨b2,off,cap,fun i => vs (i * 2 + 0),fun i => vs (i * 2 + 1),hc',fun i hi => ⟨(hcs i 0 hi (by omega)).1,(hcs i 1 hi (by omega)).1⟩,fun hlt => hY hlt _ ?_⟩
     have hq : (List.map D.ed l0).length - 1 - k < (List.map D.ed l0).length:=by omega
     generalize (List.map D.ed l0).length - 1 - k=q at *
     have h0:=(hcs q 0 hq (by omega)).2
     have h1:=(hcs q 1 hq (by omega)).2
     rw [xg3 (by simpa using hq)] at h0 h1 ⊢
     exact .agg (vs:=[_,_]) rfl fun i hi => by
      match i,hi with
      | 0,_ => exact h0
      | 1,_ => exact h1
      | n + 2,hi => exact absurd hi (by simp)
theorem ret_fn {P t f x st} (h : lk t st.s=some (.fn f [.d x])) : retQ P [.tmp t] true (.fn f [.d x]) [] .ret st:=by
 refine .inl ?_
 simp only [retO,resV,h]; exact ⟨trivial,⟨fun j => j,rfl,by simp,by simp⟩,.inl trivial⟩
theorem backwardR_ok (xs : List D) : Ctr Tryz.prog 47 [.slice xs] true (.fn (.func 86) [.d (.ptr (.slice xs))]) []:=by
 refine Ctr.ofK (n:=4) (rs:=[.tmp 2]) Tryz.func47 rfl rfl Tryz.ntmps47 rfl rfl (by kernel_rfl) Tryz.checked.mixed ?_; refine Awp.cut ?_
 simp (disch:=first | omega | decide +kernel) only [go_sem,Qa,Qb,Qc,Qd,Qe,↓reduceIte,reduceCtorEq,Qf,Qg,Qh]
 refine ⟨_,Wk.bfz 1 (.slice xs) rfl rfl,?_⟩
 simp (disch:=first | omega | decide +kernel) only [bfzS,bfzO,AV.bfz,AV.bfzL,AO.bfz,go_sem,Qa,Qb,Qc,Qd,Qe,↓reduceIte,reduceCtorEq,Qf,Qg,Qh]
 exact ret_fn rfl
theorem enters_run {P : Program} {f : FuncId} (h : Abs.Enters P f) (args : Array Value) (w : World) : (callFunc f args).run P w=.ok (.enter f args) w:=by
 obtain ⟨fn,hf1,hf2,hf3⟩:=h
 simp only [callFunc,program,Sem.run_bind,Result.andThen_ok,Sem.run_pure,Sem.run,hf1,hf2,hf3]
 rfl
def lnO (g : Chg) (b : Nat) (l : List (Int × Int)) : Nat:=(l.drop 1).reverse.foldl (stO g) b
def xf8 (g : Chg) (i : Nat) : Nat:=((xb7 g).take i).foldl (lnO g) 0
def finB (g : Chg) : Nat:=(xb7 g).foldl (lnO g) 0
def rdO (g : Chg) (b : Nat) (r : Int × Int) : Nat:=if 0<=r.2∧xv6 g r.1 b=true then b ||| 2 ^ r.2.toNat else b
theorem yg7 {α β : Type} (f : β->α->β) (h : List α->List α) : ∀ (ls : List (List α)) (b : β),(ls.flatMap h).foldl f b=ls.foldl (fun b l => (h l).foldl f b) b
 | [],b => rfl
 | l :: r,b => by rw [List.flatMap_cons,List.foldl_append,yg7 f h r]; rfl
theorem finB_seq (g : Chg) : finB g=(seqI (xb7 g)).foldl (stO g) 0:=(yg7 (stO g) (fun l => (l.drop 1).reverse) (xb7 g) 0).symm
end Abs.Y

namespace Abs.Y
open Go Go.Proofs Abs
set_option maxRecDepth 100000

theorem zj5 (g : Chg) : ∀ (E : List (Int × Int)) (b e : Nat),(E.foldl (stO g) b).testBit e=true->b.testBit e=true∨∃ r ∈ E,r.2.toNat=e
 | [],b,e,h => .inl h
 | r :: E, b, e, h => by
   rcases zj5 g E _ e h with h | ⟨x,hx,he⟩
   . unfold stO at h
     split at h
     . rw [Nat.testBit_or,Nat.testBit_two_pow,Bh,decide_eq_true_eq] at h
       rcases h with h | h
       . exact .inl h
       . exact .inr ⟨r,by simp,h⟩
     . exact .inl h
   . exact .inr ⟨x,by simp [hx],he⟩
theorem zj4 (g : Chg) (m : Nat) : ∀ (E : List (Int × Int)) (b : Nat),(∀ r ∈ E,r.2.toNat < m)->b < 2 ^ m->E.foldl (stO g) b < 2 ^ m
 | [],b,_,hb => hb
 | r :: E, b, he, hb => by
   refine zj4 g m E _ (fun x hx => he x (by simp [hx])) ?_
   unfold stO; split
   . exact Nat.or_lt_two_pow hb (Nat.pow_lt_pow_right (by decide) (he r (by simp)))
   . exact hb
theorem yu2 (g : Chg) (i : Nat) : xf8 g i=(seqI ((xb7 g).take i)).foldl (stO g) 0:=(yg7 (stO g) (fun l => (l.drop 1).reverse) _ 0).symm
theorem zj7 {α : Type} (z : α) (l : List α) (i : Nat) (h : i < l.length) : l=l.take i++l.getD i z :: l.drop (i + 1):=by
 conv => lhs; rw [← List.take_append_drop i l,zf5 z l i h]
structure AtB (g : Chg) (i k : Nat) (l : List (Int × Int)) (b : Nat) (r : Int × Int) : Prop where
 free : b.testBit r.2.toNat=false
 e0 : 0<=r.2
 e1 : r.2.toNat < g.ed.length
 v0 : 0<=r.1∧r.1.toNat < g.ch.length
theorem zb8 {g : Chg} (hg : xc7 g=true) : ∀ r ∈ seqI (xb7 g),0<=r.2∧r.2.toNat < g.ed.length∧0<=r.1∧r.1.toNat < g.ch.length:=fun r hr => by
 have h:=xw9 hg g.n.toNat (Nat.le_refl _)
 have h1:=(xk5.1 (h.ends r hr).1)
 have h2:=h.vx r hr
 have hs:=(xd4 hg).1
 unfold xl0 at hs
 exact ⟨h1.1,h1.2.1,h2.1,by omega⟩
theorem xw8 {g : Chg} (hg : xc7 g=true) (i : Nat) : xf8 g i < 2 ^ g.ed.length:=by
 rw [yu2]
 refine zj4 g _ _ 0 (fun r hr => ?_) (Nat.two_pow_pos _)
 refine (zb8 hg r ?_).2.1
 unfold seqI at hr ⊢
 obtain ⟨l,hl,hr⟩:=List.mem_flatMap.1 hr
 exact List.mem_flatMap.2 ⟨l,List.mem_of_mem_take hl,hr⟩
theorem zo3 {g : Chg} (hg : xc7 g=true) (i k : Nat) (hi : i < (xb7 g).length) (hk : k < (((xb7 g).getD i []).drop 1).reverse.length) :
 AtB g i k ((xb7 g).getD i []) (((((xb7 g).getD i []).drop 1).reverse.take k).foldl (stO g) (xf8 g i)) ((((xb7 g).getD i []).drop 1).reverse.getD k (0,0)) ∧
 ((((xb7 g).getD i []).drop 1).reverse.take k).foldl (stO g) (xf8 g i) < 2 ^ g.ed.length:=by
 have hnd:=(xw9 hg g.n.toNat (Nat.le_refl _)).nd
 have hse:=zb8 hg
 change ((seqI (xb7 g)).map (·.2)).Nodup at hnd
 have hlt:=xw8 hg i
 rw [yu2] at hlt ⊢
 have hsp:=zj7 ([] : List (Int × Int)) (xb7 g) i hi
 generalize (xb7 g).getD i []=l at *
 generalize (xb7 g).take i=A at *
 generalize (xb7 g).drop (i + 1)=B at *
 have hse2 : seqI (xb7 g)=seqI A++((l.drop 1).reverse++seqI B):=by rw [hsp]; simp [seqI]
 rw [hse2] at hnd hse
 have hsp2:=zj7 ((0,0) : Int × Int) (l.drop 1).reverse k hk
 generalize (l.drop 1).reverse=L at *
 generalize L.getD k (0,0)=r at *
 generalize L.take k=T at *
 generalize L.drop (k + 1)=U at *
 have hr:=hse r (by rw [hsp2]; simp)
 rw [← List.foldl_append]
 refine ⟨⟨?_,hr.1,hr.2.1,hr.2.2⟩,?_⟩
 . cases hb : (List.foldl (stO g) 0 (seqI A++T)).testBit r.2.toNat with
   | false => rfl
   | true =>
     exfalso
     rcases zj5 g _ _ _ hb with h | ⟨x,hx,he⟩
     . simp at h
     . have hx0:=hse x (by rw [hsp2]; rcases List.mem_append.1 hx with h | h<;>simp [h])
       rw [hsp2] at hnd
       have e2 : x.2=r.2:=by omega
       have : ((seqI A++T).map (·.2)++(r.2 :: (U++seqI B).map (·.2))).Nodup:=by simpa [List.map_append,List.append_assoc] using hnd
       rw [List.nodup_append] at this
       exact this.2.2 x.2 (List.mem_map.2 ⟨x,hx,rfl⟩) r.2 (by simp) e2
 . rw [List.foldl_append]
   exact zj4 g _ T _ (fun x hx => (hse x (by rw [hsp2]; simp [hx])).2.1) hlt
theorem zh5 {g : Chg} (hg : xc7 g=true) (i : Nat) (hi : i < (xb7 g).length) : ∃ v t,(xb7 g).getD i []=(v,-1) :: t∧(0<=v∧v < g.n)∧(xb7 g).getD i []=xh0 g v∧(xq4 (((xb7 g).getD i []).map (·.1))).getD 0 0=v:=by
 obtain ⟨v,hv,he,hm⟩:=(xw9 hg g.n.toNat (Nat.le_refl _)).line _ (xc0 (z:=([] : List (Int × Int))) (l:=(xb7 g)) hi)
 obtain ⟨_,_,_,h4⟩:=xn6 hg hv
 obtain ⟨t,ht⟩:=xx0 h4
 refine ⟨v,t,by rw [he]; exact ht,hv,he,?_⟩
 have hnd:=(xx1 hg hv).nd
 rw [← he] at hnd
 have hmem:=(xn3 (((xb7 g).getD i []).map (·.1))).mem_iff (a:=v)
 have hasc:=yl8 hnd
 have hin : v ∈ ((xb7 g).getD i []).map (·.1):=by rw [he,ht]; simp
 have hall : ∀ x ∈ xq4 (((xb7 g).getD i []).map (·.1)),v<=x:=fun x hx => hm x ((xn3 _).mem_iff.1 hx)
 have hin2:=hmem.2 hin
 generalize xq4 (((xb7 g).getD i []).map (·.1))=s at *
 cases s with
 | nil => simp at hin2
 | cons a r =>
   rw [List.getD_cons_zero]
   have:=hall a (by simp)
   rcases List.mem_cons.1 hin2 with h | h
   . exact h.symm
   . have:=(List.pairwise_cons.1 hasc).1 v h; omega
end Abs.Y
