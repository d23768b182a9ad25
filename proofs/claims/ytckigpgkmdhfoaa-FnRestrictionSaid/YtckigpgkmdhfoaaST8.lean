/- What functions of this program compute, over plain data. No condition. -/
import Derived.Test.YtckigpgkmdhfoaaST7
import Derived.Test.YtckigpgkmdhfoaaFR7
set_option linter.all false
namespace Abs.Y
open Go Go.Proofs Abs
open Nat renaming reduceEqDiff -> Qa, reduceLT -> Qb, reduceAdd -> Qc, reduceMul -> Qd, reduceSub -> Qe, reduceLeDiff -> Qf, reduceSubDiff -> Qg, reduceBEq -> Qh
open Bool renaming not_eq_true' -> Ba, not_eq_false' -> Bb, and_eq_true -> Bc, or_eq_true -> Bd, or_eq_false_iff -> Be
open Int renaming ofNat_lt -> Ia, ofNat_le -> Ib, not_lt -> Ic, not_le -> Ie
open Decidable renaming not_not -> Da
set_option maxRecDepth 100000

set_option maxHeartbeats 4000000 in
theorem assignment_ok {code : List Int} (hc : CodeOK code) (vars : Int) (hv : -1000000<=vars∧vars<=1000000) : DrawsR 136 [.d (.int .i64 vars)] 24 (QL (SmN 12)) code:=fun at_ seed h1 h2 h3 => by
 have c1:=l1Least_ok vars 12
 have c2:=pick_ok hc 4 (by omega)
 have hma : ∀ (l : List Int) (y : Int),(l.map (D.int .i64))++[.int .i64 y]=(l++[y]).map (D.int .i64):=fun l y => by simp
 have hap : ∀ {n : Nat} {l : List Int} {y : Int},SmN n l->-1000001<=y∧y<=1000001->SmN (n + 1) (l++[y]):=fun h hy => by
  refine ⟨by have:=h.1; simp; omega,fun x hx => ?_⟩
  rcases List.mem_append.1 hx with hx | hx
  . exact h.2 x hx
  . rw [List.mem_singleton] at hx; subst hx; exact hy
 have hmn : ∀ {n m : Nat} {l : List Int},SmN n l->n<=m->SmN m l:=fun h hm => ⟨Nat.le_trans h.1 hm,h.2⟩
 refine CtrR.of (n:=30) (rs:=[.tmp 4]) Try.func136 rfl rfl Try.ntmps136 rfl rfl (by kernel_rfl) Try.checked.mixed ?_; intro u
 simp (disch:=first | omega | decide +kernel) only [curO,curB,D.bytes,go_sem,Qa,Qb,Qc,Qd,Qe,↓reduceIte,reduceCtorEq,Qf,Qg,Qh]
 (repeat' (first | ((first | (refine gsel_split (fun q' => ?_) (fun q' => ?_)<;>(have h':=q')<;>(try simp only [za1,za2,Ba,Bb,za3,ne_eq,za4,za5,za6,Ia,Ib,Ic,Ie,Da,Bc,Bd,Be,za7,za8] at h')<;>try (exfalso; omega)) | (have q':=trivial; first | refine hE _ _ ret_ne ?_ | refine hE _ _ exit_ne ?_))<;>(try simp (disch:=first | omega | decide +kernel) only [q',curO,curB,D.bytes,go_sem,Qa,Qb,Qc,Qd,Qe,↓reduceIte,reduceCtorEq,Qf,Qg,Qh])<;>clear q') | refine hN _ ?_ ?_ Wk.kk | with_reducible refine And.intro ?_ ?_ | with_reducible omega | exact ok_ints | exact cells_ints | exact no_mem | with_reducible exact plain_ints | (refine le_maxLen ?_; omega) | (refine za9 ⟨?_,?_⟩) | (simp only [go_sem,Qc,Qb,zb1,zb2,forall_eq]; done)))
 refine Ok.weak (show Wk _ _ ⟨[(1000000000,.hdr 0 (u 0)),(6,.d (.int .i64 1)),(5,.sl 7),(1,.d (.int .i64 vars)),(0,.p 0 0)],[(7,.arr 3 1 (([] : List Int).map (.int .i64))),(0,.box 79 [.d (.slice (code.map (.int .u8))),.d (.int .i64 (at_ : Nat)),.d (.int .u64 seed)])]⟩ from (Wk.kk)) ?_
 refine Ok.loopN [29,28,27,26,25,24,23,22,21,20,19,18,17,16,15,14,13,12,11,10,9,8,7,6,5,4,3,2] (fun i (a : List Int × (Nat × Int)) => [(6,.d (.int .i64 ((i + 1 : Nat) : Int))),(5,.sl 7)])
  (fun _ (a : List Int × (Nat × Int)) => [(7,.arr 3 1 (a.1.map (.int .i64))),(0,.box 79 [.d (.slice (code.map (.int .u8))),.d (.int .i64 (a.2.1 : Nat)),.d (.int .u64 a.2.2)])]) 12
  (fun i a => SmN i a.1∧at_<=a.2.1∧a.2.1<=at_ + 2 * i∧0<=a.2.2∧a.2.2 < 18446744073709551616) ([],(at_,seed)) ⟨⟨Nat.le_refl _,fun x hx => absurd hx List.not_mem_nil⟩,Nat.le_refl _,Nat.le_refl _,h2,h3⟩ (Wk.kk) ?_
 rintro R i ⟨o,a,s⟩ hN hE hi ⟨hS,ha1,ha2,hs1,hs2⟩
 dsimp only at hS ha1 ha2 hs1 hs2 ⊢
 have hol:=hS.1
 have hmin : min vars 12=if vars < 12 then vars else 12:=by split<;>omega
 by_cases h0 : ((i + 1 : Nat) : Int)<=min vars 12
 . simp (disch:=first | omega | decide +kernel) only [go_sem,Qa,Qb,Qc,Qd,Qe,↓reduceIte,reduceCtorEq,Qf,Qg,Qh]
   (repeat' (first | ((first | (refine gsel_split (fun q' => ?_) (fun q' => ?_)<;>(have h':=q')<;>(try simp only [za1,za2,Ba,Bb,za3,ne_eq,za4,za5,za6,Ia,Ib,Ic,Ie,Da,Bc,Bd,Be,za7,za8] at h')<;>try (exfalso; omega)) | (have q':=trivial; first | refine callX_new (c1) rfl (by decide) ?_ | refine callY_new (c1) rfl ?_ | (refine callX_draw _ (c2) ⟨.inl rfl,.inl rfl,trivial⟩ rfl (by simp [dstB]) (by omega) (by omega) (by omega) ?_; rintro _ atd sdd hatd1 hatd2 hsdd1 hsdd2 ⟨xd,rfl,hxd⟩) | refine hE _ _ ret_ne ?_ | refine hE _ _ exit_ne ?_))<;>(try simp (disch:=first | omega | decide +kernel) only [q',curO,curB,D.bytes,hma,go_sem,Qa,Qb,Qc,Qd,Qe,↓reduceIte,reduceCtorEq,Qf,Qg,Qh])<;>clear q') | refine hN _ ?_ ?_ Wk.kk | with_reducible refine And.intro ?_ ?_ | with_reducible omega | exact ok_ints | exact cells_ints | exact no_mem | with_reducible exact plain_ints | (refine le_maxLen ?_; omega) | (refine za9 ⟨?_,?_⟩) | (simp only [go_sem,Qc,Qb,zb1,zb2,forall_eq]; done)))
   . refine hN (o++[((i + 1 : Nat) : Int)],(atd,sdd)) _ (by omega) ⟨hap hS (by omega),by dsimp only; omega,by dsimp only; omega,hsdd1,hsdd2⟩ (Wk.kk)
   . refine hN (o++[0 - ((i + 1 : Nat) : Int)],(atd,sdd)) _ (by omega) ⟨hap hS (by omega),by dsimp only; omega,by dsimp only; omega,hsdd1,hsdd2⟩ (Wk.kk)
   . refine hN (o,(atd,sdd)) _ (by omega) ⟨hmn hS (Nat.le_succ _),by dsimp only; omega,by dsimp only; omega,hsdd1,hsdd2⟩ (Wk.kk)
 . clear hN
   simp (disch:=first | omega | decide +kernel) only [go_sem,Qa,Qb,Qc,Qd,Qe,↓reduceIte,reduceCtorEq,Qf,Qg,Qh]
   (repeat' (first | ((first | (refine gsel_split (fun q' => ?_) (fun q' => ?_)<;>(have h':=q')<;>(try simp only [za1,za2,Ba,Bb,za3,ne_eq,za4,za5,za6,Ia,Ib,Ic,Ie,Da,Bc,Bd,Be,za7,za8] at h')<;>try (exfalso; omega)) | (have q':=trivial; first | refine callX_new (c1) rfl (by decide) ?_ | refine callY_new (c1) rfl ?_ | refine hE _ _ ret_ne ?_ | refine hE _ _ exit_ne ?_))<;>(try simp (disch:=first | omega | decide +kernel) only [q',curO,curB,D.bytes,go_sem,Qa,Qb,Qc,Qd,Qe,↓reduceIte,reduceCtorEq,Qf,Qg,Qh])<;>clear q') | refine hN _ ?_ ?_ Wk.kk | with_reducible refine And.intro ?_ ?_ | with_reducible omega | exact ok_ints | exact cells_ints | exact no_mem | with_reducible exact plain_ints | (refine le_maxLen ?_; omega) | (refine za9 ⟨?_,?_⟩) | (simp only [go_sem,Qc,Qb,zb1,zb2,forall_eq]; done)))
   all_goals (first | exact retR_drawR rfl rfl rfl rfl (by decide) (by omega) (by omega) hs1 hs2 (hmn hS hi))
theorem anyAssignment_ok {code : List Int} (hc : CodeOK code) (vars : Int) (hv : -1000000<=vars∧vars<=1000000) : DrawsR 99 [.d (.int .i64 vars)] 50 (QL (Sn 13)) code:=fun at_ seed h1 h2 h3 => by
 have c1 : DrawsR 136 [.d (.int .i64 vars)] 24 (QL fun l => l.length<=12∧SmN 12 l) code:=fun a b x y z => (assignment_ok hc vars hv a b x y z).mono fun _ _ ⟨at',s,o,e1,e2,e3,e4,e5,e6,x,e7,e8⟩ => ⟨at',s,o,e1,e2,e3,e4,e5,e6,x,e7,e8.1,e8⟩
 have c2:=pick_ok hc 32 (by omega)
 have c3:=lit_ok hc vars hv
 have c4:=amongB_ok hc [0,vars + 1,-9223372036854775808] (-9223372036854775808) 1000001 (by simp) (by simp; omega)
 simp only [List.map_cons,List.map_nil] at c4
 have hms : ∀ (l : List Int) (i : Nat) (y : Int),(l.map (D.int .i64)).set i (.int .i64 y)=(l.set i y).map (D.int .i64):=fun l i y => by rw [List.map_set]
 have hma : ∀ (l : List Int) (y : Int),(l.map (D.int .i64))++[.int .i64 y]=(l++[y]).map (D.int .i64):=fun l y => by simp
 have hei : ∀ (l : List Int) (i : Nat),i < l.length->el (l.map (D.int .i64)) i=.int .i64 (l.getD i 0):=fun l i h => el_ints h
 have t0 : Int.toNat 0=0:=rfl
 refine CtrR.of (n:=32) (rs:=[.tmp 4]) Try.func99 rfl rfl Try.ntmps99 rfl rfl (by kernel_rfl) Try.checked.mixed ?_; intro u
 simp (disch:=first | omega | decide +kernel) only [curO,curB,D.bytes,go_sem,Qa,Qb,Qc,Qd,Qe,↓reduceIte,reduceCtorEq,Qf,Qg,Qh]
 (repeat' (first | ((first | (refine gsel_split (fun q' => ?_) (fun q' => ?_)<;>(have h':=q')<;>(try simp only [za1,za2,Ba,Bb,za3,ne_eq,za4,za5,za6,Ia,Ib,Ic,Ie,Da,Bc,Bd,Be,za7,za8] at h')<;>try (exfalso; omega)) | (have q':=trivial; first | (refine callX_drawR _ (c1) ⟨.inl rfl,.inl rfl,trivial⟩ rfl (by decide) (by omega) (by omega) (by omega) (by omega) ?_; rintro ata sda _ hata1 hata2 hsda1 hsda2 ⟨xa,rfl,hxa⟩) | (refine callX_draw _ (c2) ⟨.inl rfl,.inl rfl,trivial⟩ rfl (by simp [dstB]) (by omega) (by omega) (by omega) ?_; rintro _ atb sdb hatb1 hatb2 hsdb1 hsdb2 ⟨xb,rfl,hxb⟩) | (refine callX_draw _ (c3) ⟨.inl rfl,.inl rfl,trivial⟩ rfl (by simp [dstB]) (by omega) (by omega) (by omega) ?_; rintro _ atc sdc hatc1 hatc2 hsdc1 hsdc2 ⟨xc,rfl,hxc⟩) | (refine callX_drawL _ _ (c4) ⟨.inl rfl,.inl rfl,trivial⟩ rfl rfl (by decide) (by simp [dstB]) (by omega) (by omega) (by omega) ?_; rintro _ at1 sd1 hat1 hat2 hsd1 hsd2 ⟨x1,rfl,hx1⟩) | refine hE _ _ ret_ne ?_ | refine hE _ _ exit_ne ?_))<;>(try simp (disch:=first | omega | decide +kernel) only [q',curO,curB,D.bytes,hei,t0,hms,hma,List.length_set,List.length_map,go_sem,Qa,Qb,Qc,Qd,Qe,↓reduceIte,reduceCtorEq,Qf,Qg,Qh])<;>clear q') | refine hN _ ?_ ?_ Wk.kk | with_reducible refine And.intro ?_ ?_ | with_reducible omega | exact ok_ints | exact cells_ints | exact no_mem | with_reducible exact plain_ints | (refine le_maxLen ?_; omega) | (refine za9 ⟨?_,?_⟩) | (simp only [go_sem,Qc,Qb,zb1,zb2,forall_eq]; done)))
 all_goals (first | omega | refine retR_drawR rfl rfl rfl rfl (by decide) (by omega) (by omega) (by omega) (by omega) ?_)
 all_goals have hxa:=hxa.2
 all_goals (first | exact hxa.sn (by omega) | exact (hxa.sn (Nat.le_refl _)).app (by omega) | exact (hxa.sn (by omega)).set (by omega))
@[reducible] def QV : AV->Prop:=fun r => ∃ x : (Int × List (List Int)) × List Int,r=.tup [.d (.agg [.int .i64 x.1.1,.slice (x.1.2.map D.ints)]),.d (.ints x.2)]∧-1<=x.1.1∧x.1.1<=13∧x.1.2.length<=100∧(∀ c ∈ x.1.2,c.length<=100)∧x.2.length<=13
theorem drawValueOfCnf_ok {code : List Int} (hc : CodeOK code) : CtrR Try.prog 41 [.d (D.bytes code)] [] [] true fun r oo => oo=[]∧QV r:=by
 have c1:=dcnf_ok hc
 have c2:=fun (v : Int) h => anyAssignment_ok hc v h
 refine CtrR.ofO (n:=16) (rs:=[.cell 2 26,.tmp 3]) Try.func41 rfl rfl Try.ntmps41 rfl rfl (by kernel_rfl) Try.checked.mixed ?_; intro u
 refine Ok.endsW ?_
 refine Ok.seq (Ok.go ?_)
 simp (disch:=first | omega | decide +kernel) only [curO,curB,D.bytes,go_sem,Qa,Qb,Qc,Qd,Qe,↓reduceIte,reduceCtorEq,Qf,Qg,Qh]
 refine Ok.seq (Ok.go ?_)
 simp (disch:=first | omega | decide +kernel) only [curO,curB,D.bytes,go_sem,Qa,Qb,Qc,Qd,Qe,↓reduceIte,reduceCtorEq,Qf,Qg,Qh]
 refine Ok.seq (Ok.go ?_)
 simp (disch:=first | omega | decide +kernel) only [curO,curB,D.bytes,go_sem,Qa,Qb,Qc,Qd,Qe,↓reduceIte,reduceCtorEq,Qf,Qg,Qh]
 (repeat' (first | ((first | (refine gsel_split (fun q' => ?_) (fun q' => ?_)<;>(have h':=q')<;>(try simp only [za1,za2,Ba,Bb,za3,ne_eq,za4,za5,za6,Ia,Ib,Ic,Ie,Da,Bc,Bd,Be,za7,za8] at h')<;>try (exfalso; omega)) | (have q':=trivial; first | (refine callX_draw (at_:=0) _ (c1) ⟨.inl rfl,trivial⟩ rfl (by simp [dstB]) (by omega) (by omega) (by omega) ?_; rintro _ ata sda hata1 hata2 hsda1 hsda2 ⟨xa,rfl,hxa⟩) | refine hE _ _ ret_ne ?_ | refine hE _ _ exit_ne ?_))<;>(try simp (disch:=first | omega | decide +kernel) only [q',curO,curB,D.bytes,go_sem,Qa,Qb,Qc,Qd,Qe,↓reduceIte,reduceCtorEq,Qf,Qg,Qh])<;>clear q') | refine hN _ ?_ ?_ Wk.kk | with_reducible refine And.intro ?_ ?_ | with_reducible omega | exact ok_ints | exact cells_ints | exact no_mem | with_reducible exact plain_ints | (refine le_maxLen ?_; omega) | (refine za9 ⟨?_,?_⟩) | (simp only [go_sem,Qc,Qb,zb1,zb2,forall_eq]; done)))
 refine Ok.seq (Ok.reg7 [true,true,true,true,false,false,false] (by decide +kernel) ?_)
 simp (disch:=first | omega | decide +kernel) only [curO,curB,D.bytes,go_sem,Qa,Qb,Qc,Qd,Qe,↓reduceIte,reduceCtorEq,Qf,Qg,Qh]
 (repeat' (first | ((first | (refine gsel_split (fun q' => ?_) (fun q' => ?_)<;>(have h':=q')<;>(try simp only [za1,za2,Ba,Bb,za3,ne_eq,za4,za5,za6,Ia,Ib,Ic,Ie,Da,Bc,Bd,Be,za7,za8] at h')<;>try (exfalso; omega)) | (have q':=trivial; first | (refine callX_drawR _ (c2 _ (by omega)) ⟨.inl rfl,.inl rfl,trivial⟩ rfl (by decide) (by omega) (by omega) (by omega) (by omega) ?_; rintro atb sdb _ hatb1 hatb2 hsdb1 hsdb2 ⟨xb,rfl,hxb⟩) | refine hE _ _ ret_ne ?_ | refine hE _ _ exit_ne ?_))<;>(try simp (disch:=first | omega | decide +kernel) only [q',curO,curB,D.bytes,go_sem,Qa,Qb,Qc,Qd,Qe,↓reduceIte,reduceCtorEq,Qf,Qg,Qh])<;>clear q') | refine hN _ ?_ ?_ Wk.kk | with_reducible refine And.intro ?_ ?_ | with_reducible omega | exact ok_ints | exact cells_ints | exact no_mem | with_reducible exact plain_ints | (refine le_maxLen ?_; omega) | (refine za9 ⟨?_,?_⟩) | (simp only [go_sem,Qc,Qb,zb1,zb2,forall_eq]; done)))
 refine Ok.go ?_
 simp (disch:=first | omega | decide +kernel) only [go_sem,Qa,Qb,Qc,Qd,Qe,↓reduceIte,reduceCtorEq,Qf,Qg,Qh]
 refine endF [1600000] ?_
 exact retR_cv rfl rfl rfl (by simp only [go_sem]) (by simp only [go_sem,List.length_cons,List.length_nil]) rfl (by simp only [go_sem]) ⟨rfl,(xa,xb),rfl,hxa.1,hxa.2.1,hxa.2.2.1,hxa.2.2.2,hxb.1⟩
theorem drawFalseClauses_ok {code : List Int} (hc : CodeOK code) : CtrR Try.prog 13 [.d (D.bytes code)] [] [] true fun r oo => oo=[]∧QV r:=by
 have c1:=drawValueOfCnf_ok hc
 refine CtrR.of (n:=8) (rs:=[.cell 2 26,.tmp 3]) Try.func13 rfl rfl Try.ntmps13 rfl rfl (by kernel_rfl) Try.checked.mixed ?_; intro u
 simp (disch:=first | omega | decide +kernel) only [go_sem,Qa,Qb,Qc,Qd,Qe,↓reduceIte,reduceCtorEq,Qf,Qg,Qh]
 (repeat' (first | ((first | (refine gsel_split (fun q' => ?_) (fun q' => ?_)<;>(have h':=q')<;>(try simp only [za1,za2,Ba,Bb,za3,ne_eq,za4,za5,za6,Ia,Ib,Ic,Ie,Da,Bc,Bd,Be,za7,za8] at h')<;>try (exfalso; omega)) | (have q':=trivial; first | (refine callX_rels (c1) ⟨.inl rfl,trivial⟩ (by simp [dstB]) ?_; rintro _ ⟨xa,rfl,hxa⟩) | (refine callX_rels (c1) ⟨.inr ⟨rfl,_,rfl,rfl⟩,trivial⟩ (by simp [dstB]) ?_; rintro _ ⟨xa,rfl,hxa⟩) | refine hE _ _ ret_ne ?_ | refine hE _ _ exit_ne ?_))<;>(try simp (disch:=first | omega | decide +kernel) only [q',go_sem,Qa,Qb,Qc,Qd,Qe,↓reduceIte,reduceCtorEq,Qf,Qg,Qh])<;>clear q') | refine hN _ ?_ ?_ Wk.kk | with_reducible refine And.intro ?_ ?_ | with_reducible omega | exact ok_ints | exact cells_ints | exact no_mem | with_reducible exact plain_ints | (refine le_maxLen ?_; omega) | (refine za9 ⟨?_,?_⟩) | (simp only [go_sem,Qc,Qb,zb1,zb2,forall_eq]; done)))
 all_goals (first | exact retR_cv rfl rfl rfl (by simp only [go_sem]) (by simp only [go_sem,List.length_cons,List.length_nil]) rfl (by simp only [go_sem]) ⟨rfl,xa,rfl,hxa⟩)
theorem drawRestrictCnf_ok {code : List Int} (hc : CodeOK code) : CtrR Try.prog 7 [.d (D.bytes code)] [] [] true fun r oo => oo=[]∧QV r:=by
 have c1:=drawValueOfCnf_ok hc
 refine CtrR.of (n:=8) (rs:=[.cell 2 26,.tmp 3]) Try.func7 rfl rfl Try.ntmps7 rfl rfl (by kernel_rfl) Try.checked.mixed ?_; intro u
 simp (disch:=first | omega | decide +kernel) only [go_sem,Qa,Qb,Qc,Qd,Qe,↓reduceIte,reduceCtorEq,Qf,Qg,Qh]
 (repeat' (first | ((first | (refine gsel_split (fun q' => ?_) (fun q' => ?_)<;>(have h':=q')<;>(try simp only [za1,za2,Ba,Bb,za3,ne_eq,za4,za5,za6,Ia,Ib,Ic,Ie,Da,Bc,Bd,Be,za7,za8] at h')<;>try (exfalso; omega)) | (have q':=trivial; first | (refine callX_rels (c1) ⟨.inl rfl,trivial⟩ (by simp [dstB]) ?_; rintro _ ⟨xa,rfl,hxa⟩) | (refine callX_rels (c1) ⟨.inr ⟨rfl,_,rfl,rfl⟩,trivial⟩ (by simp [dstB]) ?_; rintro _ ⟨xa,rfl,hxa⟩) | refine hE _ _ ret_ne ?_ | refine hE _ _ exit_ne ?_))<;>(try simp (disch:=first | omega | decide +kernel) only [q',go_sem,Qa,Qb,Qc,Qd,Qe,↓reduceIte,reduceCtorEq,Qf,Qg,Qh])<;>clear q') | refine hN _ ?_ ?_ Wk.kk | with_reducible refine And.intro ?_ ?_ | with_reducible omega | exact ok_ints | exact cells_ints | exact no_mem | with_reducible exact plain_ints | (refine le_maxLen ?_; omega) | (refine za9 ⟨?_,?_⟩) | (simp only [go_sem,Qc,Qb,zb1,zb2,forall_eq]; done)))
 all_goals (first | exact retR_cv rfl rfl rfl (by simp only [go_sem]) (by simp only [go_sem,List.length_cons,List.length_nil]) rfl (by simp only [go_sem]) ⟨rfl,xa,rfl,hxa⟩)
end Abs.Y
