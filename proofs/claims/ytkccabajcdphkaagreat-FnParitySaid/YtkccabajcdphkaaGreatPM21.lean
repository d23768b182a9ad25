/- What functions of this program compute, over plain data. No condition. -/
import Derived.Test.YtkccabajcdphkaaGreatR3
import Derived.Test.YtkccabajcdphkaaGreatFF3
set_option linter.all false
open Nat renaming reduceEqDiff -> Qa, reduceLT -> Qb, reduceAdd -> Qc, reduceMul -> Qd, reduceSub -> Qe, reduceLeDiff -> Qf, reduceSubDiff -> Qg, reduceBEq -> Qh
open Bool renaming not_eq_true' -> Ba, not_eq_false' -> Bb, and_eq_true -> Bc, or_eq_true -> Bh, or_eq_false_iff -> Be
open Int renaming ofNat_lt -> Ia, ofNat_le -> Ib, not_lt -> Ic, not_le -> Ie
open Decidable renaming not_not -> Da
namespace Abs
open Go Go.Proofs Go.RowKit
theorem zu9 {P : Program} {N : Nat} {rs u keep sh} {R : AV->List (Nat × AO)->Prop} {st : St} (js : List Nat) (h : retR P rs u keep sh R .ret (frzs js st)) : ∃ st',Wk N st st'∧retR P rs u keep sh R .ret st' :=
 ⟨_,fun _ β φ _ _ _ _ _ hs => ⟨β,φ,hs.frzs⟩,h⟩
theorem Ok.condT2 {P : Program} {N : Nat} {c : Operand} {x y : Code} {Q : Exit->St->Prop} {st : St} (hc : ev st c=some (.d (.bool true))) (h : Ok P N x Q st) : Ok P N (.cond c x y) Q st:=fun h1 h2 Z B M w0 a w hs => by
 simp only [xh4,Bool.and_eq_true_iff] at h1
 have he : a.eval c=.bool true:=by obtain ⟨β,φ,hB⟩:=hs; exact xv0 hB hc
 exact ⟨true,he,fun _ => h h1.1 h2 Z B M w0 a w hs,fun e => nomatch e⟩
theorem Ok.condF2 {P : Program} {N : Nat} {c : Operand} {x y : Code} {Q : Exit->St->Prop} {st : St} (hc : ev st c=some (.d (.bool false))) (h : Ok P N y Q st) : Ok P N (.cond c x y) Q st:=fun h1 h2 Z B M w0 a w hs => by
 simp only [xh4,Bool.and_eq_true_iff] at h1
 have he : a.eval c=.bool false:=by obtain ⟨β,φ,hB⟩:=hs; exact xv0 hB hc
 exact ⟨false,he,fun e => absurd e (by decide),fun _ => h h1.2 h2 Z B M w0 a w hs⟩
theorem zk0 {P : Program} {a i j b : Nat} {t e : TypeId} {x : D} {o1 o2 : AO} {st : St} {u : Nat->Value} {R : AV->List (Nat × AO)->Prop} (h : lk a st.s=some (.p b 0)) (hj : lk b st.o=some (.box e [.d x,.sl i,.sl j])) (hag : aggT P t=true) (hn : P.cellsOf t=3) (hu : (P.underlying t).isSome=true)
 (k1 : lk i st.o=some o1) (k2 : lk j st.o=some o2) (hne : (i == j)=false) (r1 : ∀ f,o1.ren f=o1) (r2 : ∀ f,o2.ren f=o2) (hR : R (.st [.d x,.sl 1,.sl 2]) [(1,o1),(2,o2)]) : retR P [.cell a t] u [] true R .ret st:=by
 have hne : ¬ i=j:=by simpa using hne
 have hl : (lk a st.s).bind (xi5 P st.o t)=some (0 + P.cellsOf t<=3∧(P.underlying t).isSome=true,.st [.d x,.sl i,.sl j]):=by
  rw [h,Option.bind_some,xi5,hj]
  simp only [hag,if_true,List.drop_zero,hn,List.length_cons,List.length_nil,List.take_succ_cons,List.take_zero,allD]
 refine ⟨_,_,hR,?_⟩
 simp only [retM,resV,hl]
 refine ⟨⟨hu,⟨by omega,hu⟩,trivial⟩,⟨fun q => if q=1 then i else j,rfl,?_,?_,trivial⟩,.inl trivial⟩
 . intro p hp
   simp only [List.mem_cons,List.not_mem_nil,or_false] at hp
   rcases hp with rfl | rfl
   . simpa [r1] using k1
   . simpa [r2] using k2
 . intro p hp q hq e
   simp only [List.mem_cons,List.not_mem_nil,or_false] at hp hq
   rcases hp with rfl | rfl<;>rcases hq with rfl | rfl<;>simp_all
theorem zb9 {P : Program} {a i j b c : Nat} {t e : TypeId} {x y : D} {o1 o2 : AO} {st : St} {u : Nat->Value} {R : AV->List (Nat × AO)->Prop} (h : lk a st.s=some (.p b 0)) (h' : lk c st.s=some (.d y)) (hj : lk b st.o=some (.box e [.d x,.sl i,.sl j])) (hag : aggT P t=true) (hn : P.cellsOf t=3) (hu : (P.underlying t).isSome=true)
 (k1 : lk i st.o=some o1) (k2 : lk j st.o=some o2) (hne : (i == j)=false) (r1 : ∀ f,o1.ren f=o1) (r2 : ∀ f,o2.ren f=o2) (hR : R (.tup [.st [.d x,.sl 1,.sl 2],.d y]) [(1,o1),(2,o2)]) : retR P [.cell a t,.tmp c] u [] true R .ret st:=by
 have hne : ¬ i=j:=by simpa using hne
 have hl : (lk a st.s).bind (xi5 P st.o t)=some (0 + P.cellsOf t<=3∧(P.underlying t).isSome=true,.st [.d x,.sl i,.sl j]):=by
  rw [h,Option.bind_some,xi5,hj]
  simp only [hag,if_true,List.drop_zero,hn,List.length_cons,List.length_nil,List.take_succ_cons,List.take_zero,allD]
 refine ⟨_,_,hR,?_⟩
 simp only [retM,resV,hl,h']
 refine ⟨⟨hu,⟨by omega,hu⟩,trivial⟩,⟨fun q => if q=1 then i else j,rfl,?_,?_,trivial⟩,.inl trivial⟩
 . intro p hp
   simp only [List.mem_cons,List.not_mem_nil,or_false] at hp
   rcases hp with rfl | rfl
   . simpa [r1] using k1
   . simpa [r2] using k2
 . intro p hp q hq e
   simp only [List.mem_cons,List.not_mem_nil,or_false] at hp hq
   rcases hp with rfl | rfl<;>rcases hq with rfl | rfl<;>simp_all
end Abs
namespace Abs.Y
open Go Go.Proofs Abs
set_option maxRecDepth 100000

@[reducible] def edO (es : List (Int × Int)) : AO:=.arr 65 2 (es.map D.ed)
@[reducible] def chO (cs : List Int) : AO:=.arr 3 1 (cs.map (.int .i64))
theorem okE2 (p q : Int) : D.ok 2 (D.agg [D.int .i64 p,D.int .i64 q]):=okE1 (p,q)
theorem yi3 (n : Int) (hn : 1<=n∧n<=8) (es : List (Int × Int)) (odd : Bool) :
 CtrR Tryz.prog 130 [.d (.int .i64 n),.sl 0,.d (.bool odd)] [(0,edO es)] [] true fun r oo => ∃ cs : List Int,r=.st [.d (.int .i64 n),.sl 1,.sl 2]∧oo=[(1,edO es),(2,chO cs)]∧cs.length=n.toNat:=by
 have hrep : ∀ m,List.replicate m (D.int .i64 0)=(List.replicate m (0 : Int)).map (.int .i64):=fun m => by rw [List.map_replicate]
 have her : el (List.replicate n.toNat (D.int .i64 0)) 0=.int .i64 0:=by
  obtain ⟨m,hm⟩ : ∃ m,n.toNat=m + 1:=⟨n.toNat - 1,by omega⟩
  rw [hm]; rfl
 cases odd with
 | true =>
   refine CtrR.of (n:=18) (rs:=[.cell 6 27]) Tryz.func130 rfl rfl Tryz.ntmps130 rfl rfl (by kernel_rfl) Tryz.checked.mixed ?_; intro u
   simp (disch:=first | omega | decide +kernel) only [her,List.length_replicate,go_sem,Qa,Qb,Qc,Qd,Qe,↓reduceIte,reduceCtorEq,Qf,Qg,Qh]
   (repeat' (first | ((first | (refine xa0 ?_ ?_<;>intro q'<;>(have h':=q')<;>(try simp only [zz] at h')<;>try (exfalso; omega)))<;>(try simp (disch:=first | omega | decide +kernel) only [q',her,List.length_replicate,go_sem,Qa,Qb,Qc,Qd,Qe,↓reduceIte,reduceCtorEq,Qf,Qg,Qh])<;>clear q') | (with_reducible first | refine And.intro ?_ ?_ | omega) | exact xa6 | (refine xa1 ?_; omega) | (refine za9 ⟨?_,?_⟩) | (simp only [go_sem,Qc,Qb,zb1,zb2,forall_eq]; done)))
   rw [hrep,← List.map_set]
   exact zk0 (i:=0) (j:=11) rfl rfl (by simp only [go_sem]) (by simp only [go_sem]) (by simp only [go_sem]) rfl rfl rfl (fun _ => rfl) (fun _ => rfl) ⟨_,rfl,rfl,by rw [List.length_set,List.length_replicate]⟩
 | false =>
   refine CtrR.of (n:=18) (rs:=[.cell 6 27]) Tryz.func130 rfl rfl Tryz.ntmps130 rfl rfl (by kernel_rfl) Tryz.checked.mixed ?_; intro u
   simp (disch:=first | omega | decide +kernel) only [go_sem,Qa,Qb,Qc,Qd,Qe,↓reduceIte,reduceCtorEq,Qf,Qg,Qh]
   (repeat' (first | ((first | (refine xa0 ?_ ?_<;>intro q'<;>(have h':=q')<;>(try simp only [zz] at h')<;>try (exfalso; omega)))<;>(try simp (disch:=first | omega | decide +kernel) only [q',go_sem,Qa,Qb,Qc,Qd,Qe,↓reduceIte,reduceCtorEq,Qf,Qg,Qh])<;>clear q') | (with_reducible first | refine And.intro ?_ ?_ | omega) | exact xa6 | (refine xa1 ?_; omega) | (refine za9 ⟨?_,?_⟩) | (simp only [go_sem,Qc,Qb,zb1,zb2,forall_eq]; done)))
   rw [hrep]
   exact zk0 (i:=0) (j:=11) rfl rfl (by simp only [go_sem]) (by simp only [go_sem]) (by simp only [go_sem]) rfl rfl rfl (fun _ => rfl) (fun _ => rfl) ⟨_,rfl,rfl,by rw [List.length_replicate]⟩
@[reducible] def RG (r : AV) (oo : List (Nat × AO)) : Prop:=∃ (n : Int) (es : List (Int × Int)) (cs : List Int),r=.tup [.st [.d (.int .i64 n),.sl 1,.sl 2],.d (.bool true)]∧oo=[(1,edO es),(2,chO cs)]∧(1<=n∧n<=8)∧(1<=es.length∧es.length<=10)∧1<=cs.length∧cs.length<=8
theorem cycle_ok (n : Int) (hn : 3<=n∧n<=8) (odd : Bool) : CtrR Tryz.prog 98 [.d (.int .i64 n),.d (.bool odd)] [] [] true RG:=by
 have c1:=xu5 n 3 8
 rw [show (decide ((3 : Int)<=n) && decide (n<=8))=true by simp; omega] at c1
 refine CtrR.ofO (n:=35) (rs:=[.cell 4 27,.tmp 5]) Tryz.func98 rfl rfl Tryz.ntmps98 rfl rfl (by kernel_rfl) Tryz.checked.mixed ?_; intro u
 refine Ok.seq (Ok.go ?_)
 simp (disch:=first | omega | decide +kernel) only [go_sem,Qa,Qb,Qc,Qd,Qe,↓reduceIte,reduceCtorEq,Qf,Qg,Qh]
 refine Ok.seq (Ok.go ?_)
 simp (disch:=first | omega | decide +kernel) only [go_sem,Qa,Qb,Qc,Qd,Qe,↓reduceIte,reduceCtorEq,Qf,Qg,Qh]
 (repeat' (first | ((first | (refine xa0 ?_ ?_<;>intro q'<;>(have h':=q')<;>(try simp only [zz] at h')<;>try (exfalso; omega)) | (have q':=trivial; first | refine xa3 (c1) rfl (by decide) ?_ | refine xa4 (c1) rfl ?_))<;>(try simp (disch:=first | omega | decide +kernel) only [q',go_sem,Qa,Qb,Qc,Qd,Qe,↓reduceIte,reduceCtorEq,Qf,Qg,Qh])<;>clear q') | (with_reducible first | refine And.intro ?_ ?_ | omega) | exact xa6 | (refine xa1 ?_; omega) | (refine za9 ⟨?_,?_⟩) | (simp only [go_sem,Qc,Qb,zb1,zb2,forall_eq]; done)))
 refine Ok.seq (Ok.go ?_)
 simp (disch:=first | omega | decide +kernel) only [go_sem,Qa,Qb,Qc,Qd,Qe,↓reduceIte,reduceCtorEq,Qf,Qg,Qh]
 (repeat' (first | ((first | (refine xa0 ?_ ?_<;>intro q'<;>(have h':=q')<;>(try simp only [zz] at h')<;>try (exfalso; omega)))<;>(try simp (disch:=first | omega | decide +kernel) only [q',go_sem,Qa,Qb,Qc,Qd,Qe,↓reduceIte,reduceCtorEq,Qf,Qg,Qh])<;>clear q') | (with_reducible first | refine And.intro ?_ ?_ | omega) | exact xa6 | (refine xa1 ?_; omega) | (refine za9 ⟨?_,?_⟩) | (simp only [go_sem,Qc,Qb,zb1,zb2,forall_eq]; done)))
 refine Ok.seq (Ok.seq (Ok.go ?_))
 simp (disch:=first | omega | decide +kernel) only [go_sem,Qa,Qb,Qc,Qd,Qe,↓reduceIte,reduceCtorEq,Qf,Qg,Qh]
 (repeat' (first | ((first | (refine xa0 ?_ ?_<;>intro q'<;>(have h':=q')<;>(try simp only [zz] at h')<;>try (exfalso; omega)))<;>(try simp (disch:=first | omega | decide +kernel) only [q',go_sem,Qa,Qb,Qc,Qd,Qe,↓reduceIte,reduceCtorEq,Qf,Qg,Qh])<;>clear q') | (with_reducible first | refine And.intro ?_ ?_ | omega) | exact xa6 | (refine xa1 ?_; omega) | (refine za9 ⟨?_,?_⟩) | (simp only [go_sem,Qc,Qb,zb1,zb2,forall_eq]; done)))
 refine Ok.block ?_
 refine Ok.loopNO [34,33,32,31,30,29,28,27,26,25,24,23,22,21,20,19,18,17,16,15,14,13,12,11,10,9,8,7,6,3,2] (fun i (L : List (Int × Int)) => [(7,.d (.int .i64 (i : Nat))),(6,.sl 12)]) (fun _ (L : List (Int × Int)) => [(12,edO L)]) (n - 1).toNat (fun i L => L.length=i) [] rfl (Wk.kk) ?_
 rintro R i L hN hE1 hi hL
 by_cases hlt : (i : Int) + 1 < n
 . refine Ok.seq (Ok.go ?_)
   simp (disch:=first | omega | decide +kernel) only [go_sem,Qa,Qb,Qc,Qd,Qe,↓reduceIte,reduceCtorEq,Qf,Qg,Qh]
   (repeat' (first | ((first | (refine xa0 ?_ ?_<;>intro q'<;>(have h':=q')<;>(try simp only [zz] at h')<;>try (exfalso; omega)))<;>(try simp (disch:=first | omega | decide +kernel) only [q',go_sem,Qa,Qb,Qc,Qd,Qe,↓reduceIte,reduceCtorEq,Qf,Qg,Qh])<;>clear q') | (with_reducible first | refine And.intro ?_ ?_ | omega) | exact xa6 | (refine xa1 ?_; omega) | (refine za9 ⟨?_,?_⟩) | (simp only [go_sem,Qc,Qb,zb1,zb2,forall_eq]; done)))
   refine Ok.seq (Ok.go ?_)
   simp (disch:=first | omega | decide +kernel) only [go_sem,Qa,Qb,Qc,Qd,Qe,↓reduceIte,reduceCtorEq,Qf,Qg,Qh]
   (repeat' (first | ((first | (refine xa0 ?_ ?_<;>intro q'<;>(have h':=q')<;>(try simp only [zz] at h')<;>try (exfalso; omega)))<;>(try simp (disch:=first | omega | decide +kernel) only [q',List.length_map,go_sem,Qa,Qb,Qc,Qd,Qe,↓reduceIte,reduceCtorEq,Qf,Qg,Qh])<;>clear q') | (with_reducible first | refine And.intro ?_ ?_ | omega) | exact xa6 | (refine xa1 ?_; omega) | (refine za9 ⟨?_,?_⟩) | (simp only [go_sem,Qc,Qb,zb1,zb2,forall_eq]; done)))
   all_goals (first | exact okE2 _ _ | skip)
   refine Ok.go ?_
   simp (disch:=first | omega | decide +kernel) only [go_sem,Qa,Qb,Qc,Qd,Qe,↓reduceIte,reduceCtorEq,Qf,Qg,Qh]
   (repeat' (first | ((first | (refine xa0 ?_ ?_<;>intro q'<;>(have h':=q')<;>(try simp only [zz] at h')<;>try (exfalso; omega)))<;>(try simp (disch:=first | omega | decide +kernel) only [q',go_sem,Qa,Qb,Qc,Qd,Qe,↓reduceIte,reduceCtorEq,Qf,Qg,Qh])<;>clear q') | (with_reducible first | refine And.intro ?_ ?_ | omega) | exact xa6 | (refine xa1 ?_; omega) | (refine za9 ⟨?_,?_⟩) | (simp only [go_sem,Qc,Qb,zb1,zb2,forall_eq]; done)))
   rw [show (i : Int) + 1=((i + 1 : Nat) : Int) by omega]
   refine hN (L++[((i : Int),((i + 1 : Nat) : Int))]) _ (by omega) (by simp [hL]) (by refine Wk.auto ?_ ?_<;>simp [xb1,lk,killL,St.kill,xb4,xb6,AV.has,AV.hasL,AO.wipe,List.map_set,xc2,insL,xc4,ins,List.map_append,List.map_cons,List.map_nil,D.ed])
 . refine Ok.go ?_
   simp (disch:=first | omega | decide +kernel) only [go_sem,Qa,Qb,Qc,Qd,Qe,↓reduceIte,reduceCtorEq,Qf,Qg,Qh]
   (repeat' (first | ((first | (refine xa0 ?_ ?_<;>intro q'<;>(have h':=q')<;>(try simp only [zz] at h')<;>try (exfalso; omega)))<;>(try simp (disch:=first | omega | decide +kernel) only [q',go_sem,Qa,Qb,Qc,Qd,Qe,↓reduceIte,reduceCtorEq,Qf,Qg,Qh])<;>clear q') | (with_reducible first | refine And.intro ?_ ?_ | omega) | exact xa6 | (refine xa1 ?_; omega) | (refine za9 ⟨?_,?_⟩) | (simp only [go_sem,Qc,Qb,zb1,zb2,forall_eq]; done)))
   refine hE1 _ _ xa2 ?_
   simp (disch:=first | omega | decide +kernel) only [go_sem,Qa,Qb,Qc,Qd,Qe,↓reduceIte,reduceCtorEq,Qf,Qg,Qh]
   have c2:=yi3 n (by omega) (L++[((0 : Int),n - 1)]) odd
   have hed : (L++[((0 : Int),n - 1)]).map D.ed=L.map D.ed++[D.agg [.int .i64 0,.int .i64 (n - 1)]]:=by rw [List.map_append]; rfl
   rw [edO,hed] at c2
   refine Ok.go ?_
   simp (disch:=first | omega | decide +kernel) only [List.length_map,go_sem,Qa,Qb,Qc,Qd,Qe,↓reduceIte,reduceCtorEq,Qf,Qg,Qh]
   (repeat' (first | ((first | (refine xa0 ?_ ?_<;>intro q'<;>(have h':=q')<;>(try simp only [zz] at h')<;>try (exfalso; omega)))<;>(try simp (disch:=first | omega | decide +kernel) only [q',List.length_map,go_sem,Qa,Qb,Qc,Qd,Qe,↓reduceIte,reduceCtorEq,Qf,Qg,Qh])<;>clear q') | (with_reducible first | refine And.intro ?_ ?_ | omega) | exact xa6 | (refine xa1 ?_; omega) | (refine za9 ⟨?_,?_⟩) | (simp only [go_sem,Qc,Qb,zb1,zb2,forall_eq]; done)))
   all_goals (first | exact okE2 _ _ | skip)
   refine xp0 [12] [0,3500001,3500002] [12,3500001,3500002] c2 ⟨.inl rfl,.inl rfl,.inl rfl,trivial⟩ ⟨rfl,trivial⟩ (by simp [xs9,xh7,nth]) (by simp [dstB]) ?_
   rintro _ _ ⟨cs,rfl,rfl,hcs⟩
   refine ⟨by simp [xj9,xh7,nth],?_⟩
   simp (disch:=first | omega | decide +kernel) only [go_sem,Qa,Qb,Qc,Qd,Qe,↓reduceIte,reduceCtorEq,Qf,Qg,Qh]
   (repeat' (first | ((first | (refine xa0 ?_ ?_<;>intro q'<;>(have h':=q')<;>(try simp only [zz] at h')<;>try (exfalso; omega)))<;>(try simp (disch:=first | omega | decide +kernel) only [q',go_sem,Qa,Qb,Qc,Qd,Qe,↓reduceIte,reduceCtorEq,Qf,Qg,Qh])<;>clear q') | (with_reducible first | refine And.intro ?_ ?_ | omega) | exact xa6 | (refine xa1 ?_; omega) | (refine za9 ⟨?_,?_⟩) | (simp only [go_sem,Qc,Qb,zb1,zb2,forall_eq]; done)))
   all_goals exact zb9 (i:=3500001) (j:=3500002) rfl rfl rfl (by simp only [go_sem]) (by simp only [go_sem]) (by simp only [go_sem]) rfl rfl rfl (fun _ => rfl) (fun _ => rfl) ⟨n,L++[((0 : Int),n - 1)],cs,rfl,by rw [edO,hed],by omega,by rw [List.length_append,List.length_singleton]; omega,by omega,by omega⟩
theorem zd3 (n : Int) (hn : 2<=n∧n<=4) (odd : Bool) : CtrR Tryz.prog 99 [.d (.int .i64 n),.d (.bool odd)] [] [] true RG:=by
 have c1:=xu5 n 2 4
 rw [show (decide ((2 : Int)<=n) && decide (n<=4))=true by simp; omega] at c1
 refine CtrR.ofO (n:=55) (rs:=[.cell 4 27,.tmp 5]) Tryz.func99 rfl rfl Tryz.ntmps99 rfl rfl (by kernel_rfl) Tryz.checked.mixed ?_; intro u
 refine Ok.seq (Ok.go ?_)
 simp (disch:=first | omega | decide +kernel) only [go_sem,Qa,Qb,Qc,Qd,Qe,↓reduceIte,reduceCtorEq,Qf,Qg,Qh]
 refine Ok.seq (Ok.go ?_)
 simp (disch:=first | omega | decide +kernel) only [go_sem,Qa,Qb,Qc,Qd,Qe,↓reduceIte,reduceCtorEq,Qf,Qg,Qh]
 (repeat' (first | ((first | (refine xa0 ?_ ?_<;>intro q'<;>(have h':=q')<;>(try simp only [zz] at h')<;>try (exfalso; omega)) | (have q':=trivial; first | refine xa3 (c1) rfl (by decide) ?_ | refine xa4 (c1) rfl ?_))<;>(try simp (disch:=first | omega | decide +kernel) only [q',go_sem,Qa,Qb,Qc,Qd,Qe,↓reduceIte,reduceCtorEq,Qf,Qg,Qh])<;>clear q') | (with_reducible first | refine And.intro ?_ ?_ | omega) | exact xa6 | (refine xa1 ?_; omega) | (refine za9 ⟨?_,?_⟩) | (simp only [go_sem,Qc,Qb,zb1,zb2,forall_eq]; done)))
 refine Ok.seq (Ok.go ?_)
 simp (disch:=first | omega | decide +kernel) only [go_sem,Qa,Qb,Qc,Qd,Qe,↓reduceIte,reduceCtorEq,Qf,Qg,Qh]
 (repeat' (first | ((first | (refine xa0 ?_ ?_<;>intro q'<;>(have h':=q')<;>(try simp only [zz] at h')<;>try (exfalso; omega)))<;>(try simp (disch:=first | omega | decide +kernel) only [q',go_sem,Qa,Qb,Qc,Qd,Qe,↓reduceIte,reduceCtorEq,Qf,Qg,Qh])<;>clear q') | (with_reducible first | refine And.intro ?_ ?_ | omega) | exact xa6 | (refine xa1 ?_; omega) | (refine za9 ⟨?_,?_⟩) | (simp only [go_sem,Qc,Qb,zb1,zb2,forall_eq]; done)))
 refine Ok.seq (Ok.seq (Ok.go ?_))
 simp (disch:=first | omega | decide +kernel) only [go_sem,Qa,Qb,Qc,Qd,Qe,↓reduceIte,reduceCtorEq,Qf,Qg,Qh]
 (repeat' (first | ((first | (refine xa0 ?_ ?_<;>intro q'<;>(have h':=q')<;>(try simp only [zz] at h')<;>try (exfalso; omega)))<;>(try simp (disch:=first | omega | decide +kernel) only [q',go_sem,Qa,Qb,Qc,Qd,Qe,↓reduceIte,reduceCtorEq,Qf,Qg,Qh])<;>clear q') | (with_reducible first | refine And.intro ?_ ?_ | omega) | exact xa6 | (refine xa1 ?_; omega) | (refine za9 ⟨?_,?_⟩) | (simp only [go_sem,Qc,Qb,zb1,zb2,forall_eq]; done)))
 refine Ok.block ?_
 refine Ok.loopNO [54,53,52,51,50,49,48,47,46,45,44,43,42,41,40,39,38,37,36,35,34,33,32,31,30,29,28,27,26,25,24,23,22,21,20,19,18,17,16,15,14,13,12,11,10,9,8,7,6,3,2] (fun i (L : List (Int × Int)) => [(7,.d (.int .i64 (i : Nat))),(6,.sl 13)]) (fun _ (L : List (Int × Int)) => [(13,edO L)]) n.toNat (fun i L => L.length=i) [] rfl (Wk.kk) ?_
 rintro R i L hN hE1 hi hL
 by_cases hlt : (i : Int) < n
 . refine Ok.seq (Ok.go ?_)
   simp (disch:=first | omega | decide +kernel) only [go_sem,Qa,Qb,Qc,Qd,Qe,↓reduceIte,reduceCtorEq,Qf,Qg,Qh]
   (repeat' (first | ((first | (refine xa0 ?_ ?_<;>intro q'<;>(have h':=q')<;>(try simp only [zz] at h')<;>try (exfalso; omega)))<;>(try simp (disch:=first | omega | decide +kernel) only [q',go_sem,Qa,Qb,Qc,Qd,Qe,↓reduceIte,reduceCtorEq,Qf,Qg,Qh])<;>clear q') | (with_reducible first | refine And.intro ?_ ?_ | omega) | exact xa6 | (refine xa1 ?_; omega) | (refine za9 ⟨?_,?_⟩) | (simp only [go_sem,Qc,Qb,zb1,zb2,forall_eq]; done)))
   refine Ok.seq (Ok.go ?_)
   simp (disch:=first | omega | decide +kernel) only [go_sem,Qa,Qb,Qc,Qd,Qe,↓reduceIte,reduceCtorEq,Qf,Qg,Qh]
   (repeat' (first | ((first | (refine xa0 ?_ ?_<;>intro q'<;>(have h':=q')<;>(try simp only [zz] at h')<;>try (exfalso; omega)))<;>(try simp (disch:=first | omega | decide +kernel) only [q',List.length_map,go_sem,Qa,Qb,Qc,Qd,Qe,↓reduceIte,reduceCtorEq,Qf,Qg,Qh])<;>clear q') | (with_reducible first | refine And.intro ?_ ?_ | omega) | exact xa6 | (refine xa1 ?_; omega) | (refine za9 ⟨?_,?_⟩) | (simp only [go_sem,Qc,Qb,zb1,zb2,forall_eq]; done)))
   all_goals (first | exact okE2 _ _ | skip)
   refine Ok.go ?_
   simp (disch:=first | omega | decide +kernel) only [go_sem,Qa,Qb,Qc,Qd,Qe,↓reduceIte,reduceCtorEq,Qf,Qg,Qh]
   (repeat' (first | ((first | (refine xa0 ?_ ?_<;>intro q'<;>(have h':=q')<;>(try simp only [zz] at h')<;>try (exfalso; omega)))<;>(try simp (disch:=first | omega | decide +kernel) only [q',go_sem,Qa,Qb,Qc,Qd,Qe,↓reduceIte,reduceCtorEq,Qf,Qg,Qh])<;>clear q') | (with_reducible first | refine And.intro ?_ ?_ | omega) | exact xa6 | (refine xa1 ?_; omega) | (refine za9 ⟨?_,?_⟩) | (simp only [go_sem,Qc,Qb,zb1,zb2,forall_eq]; done)))
   rw [show (i : Int) + 1=((i + 1 : Nat) : Int) by omega]
   refine hN (L++[(2 * (i : Int),2 * (i : Int) + 1)]) _ (by omega) (by simp [hL]) (by refine Wk.auto ?_ ?_<;>simp [xb1,lk,killL,St.kill,xb4,xb6,AV.has,AV.hasL,AO.wipe,List.map_set,xc2,insL,xc4,ins,List.map_append,List.map_cons,List.map_nil,D.ed])
 . refine Ok.go ?_
   simp (disch:=first | omega | decide +kernel) only [go_sem,Qa,Qb,Qc,Qd,Qe,↓reduceIte,reduceCtorEq,Qf,Qg,Qh]
   (repeat' (first | ((first | (refine xa0 ?_ ?_<;>intro q'<;>(have h':=q')<;>(try simp only [zz] at h')<;>try (exfalso; omega)))<;>(try simp (disch:=first | omega | decide +kernel) only [q',go_sem,Qa,Qb,Qc,Qd,Qe,↓reduceIte,reduceCtorEq,Qf,Qg,Qh])<;>clear q') | (with_reducible first | refine And.intro ?_ ?_ | omega) | exact xa6 | (refine xa1 ?_; omega) | (refine za9 ⟨?_,?_⟩) | (simp only [go_sem,Qc,Qb,zb1,zb2,forall_eq]; done)))
   refine hE1 _ _ xa2 ?_
   simp (disch:=first | omega | decide +kernel) only [go_sem,Qa,Qb,Qc,Qd,Qe,↓reduceIte,reduceCtorEq,Qf,Qg,Qh]
   refine Ok.seq (Ok.seq (Ok.go ?_))
   simp (disch:=first | omega | decide +kernel) only [go_sem,Qa,Qb,Qc,Qd,Qe,↓reduceIte,reduceCtorEq,Qf,Qg,Qh]
   (repeat' (first | ((first | (refine xa0 ?_ ?_<;>intro q'<;>(have h':=q')<;>(try simp only [zz] at h')<;>try (exfalso; omega)))<;>(try simp (disch:=first | omega | decide +kernel) only [q',go_sem,Qa,Qb,Qc,Qd,Qe,↓reduceIte,reduceCtorEq,Qf,Qg,Qh])<;>clear q') | (with_reducible first | refine And.intro ?_ ?_ | omega) | exact xa6 | (refine xa1 ?_; omega) | (refine za9 ⟨?_,?_⟩) | (simp only [go_sem,Qc,Qb,zb1,zb2,forall_eq]; done)))
   refine Ok.block ?_
   refine Ok.loopNO [54,53,52,51,50,49,48,47,46,45,44,43,42,41,40,39,38,37,36,35,34,33,32,31,30,29,28,27,26,25,24,23,22,21,20,19,18,17,16,15,14,13,12,11,10,9,8,7,6,3,2] (fun i (L : List (Int × Int)) => [(8,.d (.int .i64 (i : Nat))),(6,.sl 13)]) (fun _ (L : List (Int × Int)) => [(13,edO L)]) (n - 1).toNat (fun i M => M.length=L.length + 2 * i) L (by omega) (Wk.kk) ?_
   rintro R2 i2 M hN2 hE2 hi2 hM
   by_cases hlt2 : (i2 : Int) + 1 < n
   . refine Ok.seq (Ok.go ?_)
     simp (disch:=first | omega | decide +kernel) only [go_sem,Qa,Qb,Qc,Qd,Qe,↓reduceIte,reduceCtorEq,Qf,Qg,Qh]
     (repeat' (first | ((first | (refine xa0 ?_ ?_<;>intro q'<;>(have h':=q')<;>(try simp only [zz] at h')<;>try (exfalso; omega)))<;>(try simp (disch:=first | omega | decide +kernel) only [q',go_sem,Qa,Qb,Qc,Qd,Qe,↓reduceIte,reduceCtorEq,Qf,Qg,Qh])<;>clear q') | (with_reducible first | refine And.intro ?_ ?_ | omega) | exact xa6 | (refine xa1 ?_; omega) | (refine za9 ⟨?_,?_⟩) | (simp only [go_sem,Qc,Qb,zb1,zb2,forall_eq]; done)))
     refine Ok.seq (Ok.go ?_)
     simp (disch:=first | omega | decide +kernel) only [go_sem,Qa,Qb,Qc,Qd,Qe,↓reduceIte,reduceCtorEq,Qf,Qg,Qh]
     (repeat' (first | ((first | (refine xa0 ?_ ?_<;>intro q'<;>(have h':=q')<;>(try simp only [zz] at h')<;>try (exfalso; omega)))<;>(try simp (disch:=first | omega | decide +kernel) only [q',List.length_map,go_sem,Qa,Qb,Qc,Qd,Qe,↓reduceIte,reduceCtorEq,Qf,Qg,Qh])<;>clear q') | (with_reducible first | refine And.intro ?_ ?_ | omega) | exact xa6 | (refine xa1 ?_; omega) | (refine za9 ⟨?_,?_⟩) | (simp only [go_sem,Qc,Qb,zb1,zb2,forall_eq]; done)))
     all_goals (first | exact okE2 _ _ | skip)
     refine Ok.go ?_
     simp (disch:=first | omega | decide +kernel) only [go_sem,Qa,Qb,Qc,Qd,Qe,↓reduceIte,reduceCtorEq,Qf,Qg,Qh]
     (repeat' (first | ((first | (refine xa0 ?_ ?_<;>intro q'<;>(have h':=q')<;>(try simp only [zz] at h')<;>try (exfalso; omega)))<;>(try simp (disch:=first | omega | decide +kernel) only [q',go_sem,Qa,Qb,Qc,Qd,Qe,↓reduceIte,reduceCtorEq,Qf,Qg,Qh])<;>clear q') | (with_reducible first | refine And.intro ?_ ?_ | omega) | exact xa6 | (refine xa1 ?_; omega) | (refine za9 ⟨?_,?_⟩) | (simp only [go_sem,Qc,Qb,zb1,zb2,forall_eq]; done)))
     rw [show (i2 : Int) + 1=((i2 + 1 : Nat) : Int) by omega]
     refine hN2 (M++[(2 * (i2 : Int),2 * (i2 : Int) + 2),(2 * (i2 : Int) + 1,2 * (i2 : Int) + 3)]) _ (by omega) (by simp [hM]; omega) (by refine Wk.auto ?_ ?_<;>simp [xb1,lk,killL,St.kill,xb4,xb6,AV.has,AV.hasL,AO.wipe,List.map_set,xc2,insL,xc4,ins,List.map_append,List.map_cons,List.map_nil,D.ed])
   . refine Ok.go ?_
     simp (disch:=first | omega | decide +kernel) only [go_sem,Qa,Qb,Qc,Qd,Qe,↓reduceIte,reduceCtorEq,Qf,Qg,Qh]
     (repeat' (first | ((first | (refine xa0 ?_ ?_<;>intro q'<;>(have h':=q')<;>(try simp only [zz] at h')<;>try (exfalso; omega)))<;>(try simp (disch:=first | omega | decide +kernel) only [q',go_sem,Qa,Qb,Qc,Qd,Qe,↓reduceIte,reduceCtorEq,Qf,Qg,Qh])<;>clear q') | (with_reducible first | refine And.intro ?_ ?_ | omega) | exact xa6 | (refine xa1 ?_; omega) | (refine za9 ⟨?_,?_⟩) | (simp only [go_sem,Qc,Qb,zb1,zb2,forall_eq]; done)))
     refine hE2 _ _ xa2 ?_
     simp (disch:=first | omega | decide +kernel) only [go_sem,Qa,Qb,Qc,Qd,Qe,↓reduceIte,reduceCtorEq,Qf,Qg,Qh]
     have c2:=yi3 (2 * n) (by omega) M odd
     refine Ok.go ?_
     simp (disch:=first | omega | decide +kernel) only [List.length_map,go_sem,Qa,Qb,Qc,Qd,Qe,↓reduceIte,reduceCtorEq,Qf,Qg,Qh]
     (repeat' (first | ((first | (refine xa0 ?_ ?_<;>intro q'<;>(have h':=q')<;>(try simp only [zz] at h')<;>try (exfalso; omega)))<;>(try simp (disch:=first | omega | decide +kernel) only [q',List.length_map,go_sem,Qa,Qb,Qc,Qd,Qe,↓reduceIte,reduceCtorEq,Qf,Qg,Qh])<;>clear q') | (with_reducible first | refine And.intro ?_ ?_ | omega) | exact xa6 | (refine xa1 ?_; omega) | (refine za9 ⟨?_,?_⟩) | (simp only [go_sem,Qc,Qb,zb1,zb2,forall_eq]; done)))
     refine xp0 [13] [0,5500001,5500002] [13,5500001,5500002] c2 ⟨.inl rfl,.inl rfl,.inl rfl,trivial⟩ ⟨rfl,trivial⟩ (by simp [xs9,xh7,nth]) (by simp [dstB]) ?_
     rintro _ _ ⟨cs,rfl,rfl,hcs⟩
     refine ⟨by simp [xj9,xh7,nth],?_⟩
     simp (disch:=first | omega | decide +kernel) only [go_sem,Qa,Qb,Qc,Qd,Qe,↓reduceIte,reduceCtorEq,Qf,Qg,Qh]
     (repeat' (first | ((first | (refine xa0 ?_ ?_<;>intro q'<;>(have h':=q')<;>(try simp only [zz] at h')<;>try (exfalso; omega)))<;>(try simp (disch:=first | omega | decide +kernel) only [q',go_sem,Qa,Qb,Qc,Qd,Qe,↓reduceIte,reduceCtorEq,Qf,Qg,Qh])<;>clear q') | (with_reducible first | refine And.intro ?_ ?_ | omega) | exact xa6 | (refine xa1 ?_; omega) | (refine za9 ⟨?_,?_⟩) | (simp only [go_sem,Qc,Qb,zb1,zb2,forall_eq]; done)))
     all_goals exact zb9 (i:=5500001) (j:=5500002) rfl rfl rfl (by simp only [go_sem]) (by simp only [go_sem]) (by simp only [go_sem]) rfl rfl rfl (fun _ => rfl) (fun _ => rfl) ⟨2 * n,M,cs,rfl,rfl,by omega,by omega,by omega,by omega⟩
end Abs.Y
