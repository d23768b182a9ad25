/- What functions of this program compute, over plain data. No condition. -/
import Derived.Test.YtckigpgkmdhfoaaST5
import Derived.Test.YtckigpgkmdhfoaaR5
set_option linter.all false
namespace Abs
open Go Go.Proofs
theorem endFK {P : Program} {N : Nat} {rs u keep sh} {R : AV->List (Nat × AO)->Prop} {st : St} (js : List Nat) (h : retR P rs u keep sh R .ret (frzs js st)) : ∃ st',Wk N st st'∧retR P rs u keep sh R .ret st' :=
 ⟨_,fun _ β φ _ _ _ _ _ hs => ⟨β,φ,hs.frzs⟩,h⟩
end Abs
namespace Abs.Y
open Go Go.Proofs Abs
open Nat renaming reduceEqDiff -> Qa, reduceLT -> Qb, reduceAdd -> Qc, reduceMul -> Qd, reduceSub -> Qe, reduceLeDiff -> Qf, reduceSubDiff -> Qg, reduceBEq -> Qh
open Bool renaming not_eq_true' -> Ba, not_eq_false' -> Bb, and_eq_true -> Bc, or_eq_true -> Bd, or_eq_false_iff -> Be
open Int renaming ofNat_lt -> Ia, ofNat_le -> Ib, not_lt -> Ic, not_le -> Ie
open Decidable renaming not_not -> Da
set_option maxRecDepth 100000

theorem retR_drawC {a j : Nat} {t e : TypeId} {cells : List AV} {ds : List D} {u : Nat->Value} {st : St} {code : List Int} {at_ k : Nat} {Q : AV->Prop} {at' : Nat} {seed' : Int} (h : lk a st.s=some (.p j 0)) (hj : lk j st.o=some (.box e cells)) (hag : aggT Try.prog t=true) (hn : Try.prog.cellsOf t=cells.length) (hd : allD cells=some ds)
 (hu : (Try.prog.underlying t).isSome=true) (ho : lk 0 st.o=some (curB code at' seed')) (hk : lk 1000000000 st.s=some (.hdr 0 (u 0))) (h1 : at_<=at') (h2 : at'<=at_ + k) (h3 : 0<=seed') (h4 : seed' < 18446744073709551616) (hQ : Q (.d (.agg ds))) :
 retR Try.prog [.cell a t] u [0] true (fun r oo => ∃ at' seed',at_<=at'∧at'<=at_ + k∧0<=seed'∧seed' < 18446744073709551616∧oo=curO code at' seed'∧Q r) .ret st:=by
 have hl : (lk a st.s).bind (loadV Try.prog st.o t)=some (0 + Try.prog.cellsOf t<=cells.length∧(Try.prog.underlying t).isSome=true,.d (.agg ds)):=by
  rw [h,Option.bind_some,loadV,hj]
  simp only [hag,if_true,List.drop_zero,hn,List.take_length,hd]
 refine ⟨_,_,⟨at',seed',h1,h2,h3,h4,rfl,hQ⟩,?_⟩
 simp only [retM,resV,hl]
 exact ⟨⟨hu,⟨by omega,hu⟩,trivial⟩,⟨fun j => j,rfl,fun p hp => by obtain rfl:=List.mem_singleton.1 hp; exact ho,by simp,⟨rfl,hk,trivial⟩⟩,.inl trivial⟩
@[reducible] def QF : AV->Prop:=fun r => ∃ x : Int × List (List Int),r=.d (.agg [.int .i64 x.1,.slice (x.2.map D.ints)])∧-1<=x.1∧x.1<=13∧x.2.length<=100∧∀ c ∈ x.2,c.length<=100
set_option maxHeartbeats 4000000 in
theorem hard_ok {code : List Int} (hc : CodeOK code) : Draws 123 [] 200 QF code:=fun at_ seed h1 h2 h3 => by
 have c1:=l2Hard_ok
 have c2:=fun (ss : List ByteArray) h => of_ok hc ss h
 have c3:=fun (s : ByteArray) h => l2Known_ok s h
 have c4:=one_ok hc 4 (by omega)
 have c5:=pick_ok hc 3 (by omega)
 have c7:=fun (v : Int) h => dclause_ok hc v h
 refine CtrR.ofO (n:=56) (rs:=[.cell 2 26]) Try.func123 rfl rfl Try.ntmps123 rfl rfl (by kernel_rfl) Try.checked.mixed ?_; intro u
 refine Ok.endsW ?_
 refine Ok.seq (Ok.go ?_)
 simp (disch:=first | omega | decide +kernel) only [curO,curB,D.bytes,go_sem,Qa,Qb,Qc,Qd,Qe,↓reduceIte,reduceCtorEq,Qf,Qg,Qh]
 refine Ok.seq (Ok.go ?_)
 simp (disch:=first | omega | decide +kernel) only [curO,curB,D.bytes,go_sem,Qa,Qb,Qc,Qd,Qe,↓reduceIte,reduceCtorEq,Qf,Qg,Qh]
 (repeat' (first | ((first | (refine gsel_split (fun q' => ?_) (fun q' => ?_)<;>(have h':=q')<;>(try simp only [za1,za2,Ba,Bb,za3,ne_eq,za4,za5,za6,Ia,Ib,Ic,Ie,Da,Bc,Bd,Be,za7,za8] at h')<;>try (exfalso; omega)) | (have q':=trivial; first | (refine callX_rels (c1) trivial (by simp [dstB]) ?_; rintro _ ⟨xa,rfl,hxa⟩) | (refine callX_rels (c1) trivial (by simp [dstB]) ?_; rintro _ ⟨xa,rfl,hxa⟩) | (refine callX_draw _ (c2 _ ⟨hxa.1,hxa.2.1⟩) ⟨.inl rfl,.inl rfl,trivial⟩ rfl (by simp [dstB]) (by omega) (by omega) (by omega) ?_; rintro _ atb sdb hatb1 hatb2 hsdb1 hsdb2 ⟨xb,rfl,hxb⟩) | (refine callX_rels (c3 _ (hxa.2.2 _ hxb)) ⟨.inl rfl,trivial⟩ (by simp [dstB]) ?_; rintro _ ⟨xc,rfl,hxc⟩) | (refine callX_rels (c3 _ (hxa.2.2 _ hxb)) ⟨.inr ⟨rfl,_,rfl,rfl⟩,trivial⟩ (by simp [dstB]) ?_; rintro _ ⟨xc,rfl,hxc⟩) | refine hE _ _ ret_ne ?_ | refine hE _ _ exit_ne ?_))<;>(try simp (disch:=first | omega | decide +kernel) only [q',curO,curB,D.bytes,go_sem,Qa,Qb,Qc,Qd,Qe,↓reduceIte,reduceCtorEq,Qf,Qg,Qh])<;>clear q') | refine hN _ ?_ ?_ Wk.kk | with_reducible refine And.intro ?_ ?_ | with_reducible omega | exact ok_ints | exact cells_ints | exact no_mem | with_reducible exact plain_ints | (refine le_maxLen ?_; omega) | (refine za9 ⟨?_,?_⟩) | (simp only [go_sem,Qc,Qb,zb1,zb2,forall_eq]; done)))
 obtain ⟨w,cs⟩:=xc
 dsimp only at hxc ⊢
 have hv:=hxc.v
 refine Ok.seq (Ok.go ?_)
 simp (disch:=first | omega | decide +kernel) only [go_sem,Qa,Qb,Qc,Qd,Qe,↓reduceIte,reduceCtorEq,Qf,Qg,Qh]
 (repeat' (first | ((first | (refine gsel_split (fun q' => ?_) (fun q' => ?_)<;>(have h':=q')<;>(try simp only [za1,za2,Ba,Bb,za3,ne_eq,za4,za5,za6,Ia,Ib,Ic,Ie,Da,Bc,Bd,Be,za7,za8] at h')<;>try (exfalso; omega)) | (have q':=trivial; first | refine hE _ _ ret_ne ?_ | refine hE _ _ exit_ne ?_))<;>(try simp (disch:=first | omega | decide +kernel) only [q',go_sem,Qa,Qb,Qc,Qd,Qe,↓reduceIte,reduceCtorEq,Qf,Qg,Qh])<;>clear q') | refine hN _ ?_ ?_ Wk.kk | with_reducible refine And.intro ?_ ?_ | with_reducible omega | exact ok_ints | exact cells_ints | exact no_mem | with_reducible exact plain_ints | (refine le_maxLen ?_; omega) | (refine za9 ⟨?_,?_⟩) | (simp only [go_sem,Qc,Qb,zb1,zb2,forall_eq]; done)))
 refine Ok.seq (Ok.go ?_)
 simp (disch:=first | omega | decide +kernel) only [go_sem,Qa,Qb,Qc,Qd,Qe,↓reduceIte,reduceCtorEq,Qf,Qg,Qh]
 (repeat' (first | ((first | (refine gsel_split (fun q' => ?_) (fun q' => ?_)<;>(have h':=q')<;>(try simp only [za1,za2,Ba,Bb,za3,ne_eq,za4,za5,za6,Ia,Ib,Ic,Ie,Da,Bc,Bd,Be,za7,za8] at h')<;>try (exfalso; omega)) | (have q':=trivial; first | refine hE _ _ ret_ne ?_ | refine hE _ _ exit_ne ?_))<;>(try simp (disch:=first | omega | decide +kernel) only [q',go_sem,Qa,Qb,Qc,Qd,Qe,↓reduceIte,reduceCtorEq,Qf,Qg,Qh])<;>clear q') | refine hN _ ?_ ?_ Wk.kk | with_reducible refine And.intro ?_ ?_ | with_reducible omega | exact ok_ints | exact cells_ints | exact no_mem | with_reducible exact plain_ints | (refine le_maxLen ?_; omega) | (refine za9 ⟨?_,?_⟩) | (simp only [go_sem,Qc,Qb,zb1,zb2,forall_eq]; done)))
 refine Ok.weak (show Wk _ _ ⟨[(1000000000,.hdr 0 (u 0)),(5,.d (.int .i64 1)),(4,.sl 11),(3,.p 3 0),(2,.p 2 0),(0,.p 0 0)],[(11,.arr 3 1 (([] : List Int).map (.int .i64))),(3,.box 26 [.d (.int .i64 w),.d (.slice (cs.map D.ints))]),(2,.box 26 [.d (.int .i64 0),.d (.slice [])]),(0,.box 79 [.d (.slice (code.map (.int .u8))),.d (.int .i64 (atb : Nat)),.d (.int .u64 sdb)])]⟩ from (Wk.kk)) ?_
 refine Ok.loopN [55,54,53,52,51,50,49,48,47,46,45,44,43,42,41,40,39,38,37,36,35,34,33,32,31,30,29,28,27,26,25,24,23,22,21,20,19,18,17,16,15,14,13,12,11,10,9,8,7,6,5,4,1] (fun i (a : List Int × (Nat × Int)) => [(5,.d (.int .i64 ((i + 1 : Nat) : Int))),(4,.sl 11)])
  (fun _ (a : List Int × (Nat × Int)) => [(11,.arr 3 1 (a.1.map (.int .i64))),(0,.box 79 [.d (.slice (code.map (.int .u8))),.d (.int .i64 (a.2.1 : Nat)),.d (.int .u64 a.2.2)])]) w.toNat
  (fun i a => a.1.length=i∧(∀ k,k < i->(a.1.getD k 0).natAbs=k + 1)∧atb<=a.2.1∧a.2.1<=atb + 2 * i∧0<=a.2.2∧a.2.2 < 18446744073709551616) ([],(atb,sdb)) ⟨rfl,fun k hk => absurd hk (by omega),Nat.le_refl _,Nat.le_refl _,hsdb1,hsdb2⟩ (Wk.kk) ?_
 rintro R i ⟨to,a,s⟩ hN hE1 hi ⟨ht1,ht2,ha1,ha2,hs1,hs2⟩
 dsimp only at ht1 ht2 ha1 ha2 hs1 hs2 ⊢
 have hma : ∀ (l : List Int) (y : Int),(l.map (D.int .i64))++[.int .i64 y]=(l++[y]).map (D.int .i64):=fun l y => by simp
 have hgt : ∀ y : Int,y.natAbs=i + 1->∀ k,k < i + 1->((to++[y]).getD k 0).natAbs=k + 1:=fun y hy k hk => by
  by_cases h : k < i
  . rw [List.getD_eq_getElem?_getD,List.getElem?_append_left (by omega),← List.getD_eq_getElem?_getD]; exact ht2 k h
  . obtain rfl : k=i:=by omega
    rw [List.getD_eq_getElem?_getD,List.getElem?_append_right (by omega),show k - to.length=0 by omega]; simpa using hy
 by_cases h0 : (i : Int) < w
 . clear hE1 c1 c2 c3 c5
   simp (disch:=first | omega | decide +kernel) only [go_sem,Qa,Qb,Qc,Qd,Qe,↓reduceIte,reduceCtorEq,Qf,Qg,Qh]
   (repeat' (first | ((first | (refine gsel_split (fun q' => ?_) (fun q' => ?_)<;>(have h':=q')<;>(try simp only [za1,za2,Ba,Bb,za3,ne_eq,za4,za5,za6,Ia,Ib,Ic,Ie,Da,Bc,Bd,Be,za7,za8] at h')<;>try (exfalso; omega)) | (have q':=trivial; first | (refine callX_draw _ (c4) ⟨.inl rfl,.inl rfl,trivial⟩ rfl (by simp [dstB]) (by omega) (by omega) (by omega) ?_; rintro _ atd sdd hatd1 hatd2 hsdd1 hsdd2 ⟨xd,rfl,hxd⟩) | refine hE _ _ ret_ne ?_ | refine hE _ _ exit_ne ?_))<;>(try simp (disch:=first | omega | decide +kernel) only [q',curO,curB,D.bytes,hma,go_sem,Qa,Qb,Qc,Qd,Qe,↓reduceIte,reduceCtorEq,Qf,Qg,Qh])<;>clear q') | refine hN _ ?_ ?_ Wk.kk | with_reducible refine And.intro ?_ ?_ | with_reducible omega | exact ok_ints | exact cells_ints | exact no_mem | with_reducible exact plain_ints | (refine le_maxLen ?_; omega) | (refine za9 ⟨?_,?_⟩) | (simp only [go_sem,Qc,Qb,zb1,zb2,forall_eq]; done)))
   . refine hN (to++[0 - ((i + 1 : Nat) : Int)],(atd,sdd)) _ (by omega) ⟨by simp [ht1],hgt _ (by omega),by dsimp only; omega,by dsimp only; omega,hsdd1,hsdd2⟩ (Wk.kk)
   . refine hN (to++[((i + 1 : Nat) : Int)],(atd,sdd)) _ (by omega) ⟨by simp [ht1],hgt _ (by omega),by dsimp only; omega,by dsimp only; omega,hsdd1,hsdd2⟩ (Wk.kk)
 . clear hN c1 c2 c3 hma hgt
   simp (disch:=first | omega | decide +kernel) only [go_sem,Qa,Qb,Qc,Qd,Qe,↓reduceIte,reduceCtorEq,Qf,Qg,Qh]
   (repeat' (first | ((first | (refine gsel_split (fun q' => ?_) (fun q' => ?_)<;>(have h':=q')<;>(try simp only [za1,za2,Ba,Bb,za3,ne_eq,za4,za5,za6,Ia,Ib,Ic,Ie,Da,Bc,Bd,Be,za7,za8] at h')<;>try (exfalso; omega)) | (have q':=trivial; first | refine hE _ _ ret_ne ?_ | refine hE _ _ exit_ne ?_))<;>(try simp (disch:=first | omega | decide +kernel) only [q',curO,curB,D.bytes,go_sem,Qa,Qb,Qc,Qd,Qe,↓reduceIte,reduceCtorEq,Qf,Qg,Qh])<;>clear q') | refine hN _ ?_ ?_ Wk.kk | with_reducible refine And.intro ?_ ?_ | with_reducible omega | exact ok_ints | exact cells_ints | exact no_mem | with_reducible exact plain_ints | (refine le_maxLen ?_; omega) | (refine za9 ⟨?_,?_⟩) | (simp only [go_sem,Qc,Qb,zb1,zb2,forall_eq]; done)))
   refine hE1 _ _ exit_ne ?_
   simp (disch:=first | omega | decide +kernel) only [go_sem,Qa,Qb,Qc,Qd,Qe,↓reduceIte,reduceCtorEq,Qf,Qg,Qh]
   have htk : ToOK w to:=⟨hv,by omega,fun k hk => ht2 k (by omega)⟩
   have c6:=renameCnf_ok w cs to hxc htk
   clear ht2 hE1
   refine Ok.weak (Wk.frz (j:=11) rfl) ?_
   simp (disch:=first | omega | decide +kernel) only [St.frz,frzS,frzO,AV.frz,AV.frzL,AO.frz,go_sem,Qa,Qb,Qc,Qd,Qe,↓reduceIte,reduceCtorEq,Qf,Qg,Qh]
   refine Ok.seq (Ok.go ?_)
   simp (disch:=first | omega | decide +kernel) only [go_sem,Qa,Qb,Qc,Qd,Qe,↓reduceIte,reduceCtorEq,Qf,Qg,Qh]
   refine callX_rel [] [3300000,3300001] [3300001] c6 ⟨.inl rfl,.inl rfl,trivial⟩ trivial (by simp [namesI,keysO]) (by simp [dstB]) ?_
   rintro _ _ ⟨ds,rfl,rfl,hd1,hd2⟩
   refine ⟨by simp [namesOK,keysO,nth],?_⟩
   simp (disch:=first | omega | decide +kernel) only [go_sem,Qa,Qb,Qc,Qd,Qe,↓reduceIte,reduceCtorEq,Qf,Qg,Qh]
   (repeat' (first | ((first | (refine gsel_split (fun q' => ?_) (fun q' => ?_)<;>(have h':=q')<;>(try simp only [za1,za2,Ba,Bb,za3,ne_eq,za4,za5,za6,Ia,Ib,Ic,Ie,Da,Bc,Bd,Be,za7,za8] at h')<;>try (exfalso; omega)) | (have q':=trivial; first | refine hE _ _ ret_ne ?_ | refine hE _ _ exit_ne ?_))<;>(try simp (disch:=first | omega | decide +kernel) only [q',go_sem,Qa,Qb,Qc,Qd,Qe,↓reduceIte,reduceCtorEq,Qf,Qg,Qh])<;>clear q') | refine hN _ ?_ ?_ Wk.kk | with_reducible refine And.intro ?_ ?_ | with_reducible omega | exact ok_ints | exact cells_ints | exact no_mem | with_reducible exact plain_ints | (refine le_maxLen ?_; omega) | (refine za9 ⟨?_,?_⟩) | (simp only [go_sem,Qc,Qb,zb1,zb2,forall_eq]; done)))
   clear c6 c4
   refine Ok.seq (Ok.go ?_)
   simp (disch:=first | omega | decide +kernel) only [go_sem,Qa,Qb,Qc,Qd,Qe,↓reduceIte,reduceCtorEq,Qf,Qg,Qh]
   (repeat' (first | ((first | (refine gsel_split (fun q' => ?_) (fun q' => ?_)<;>(have h':=q')<;>(try simp only [za1,za2,Ba,Bb,za3,ne_eq,za4,za5,za6,Ia,Ib,Ic,Ie,Da,Bc,Bd,Be,za7,za8] at h')<;>try (exfalso; omega)) | (have q':=trivial; first | (refine callX_draw _ (c5) ⟨.inl rfl,.inl rfl,trivial⟩ rfl (by simp [dstB]) (by omega) (by omega) (by omega) ?_; rintro _ atd sdd hatd1 hatd2 hsdd1 hsdd2 ⟨xd,rfl,hxd⟩) | refine hE _ _ ret_ne ?_ | refine hE _ _ exit_ne ?_))<;>(try simp (disch:=first | omega | decide +kernel) only [q',curO,curB,D.bytes,go_sem,Qa,Qb,Qc,Qd,Qe,↓reduceIte,reduceCtorEq,Qf,Qg,Qh])<;>clear q') | refine hN _ ?_ ?_ Wk.kk | with_reducible refine And.intro ?_ ?_ | with_reducible omega | exact ok_ints | exact cells_ints | exact no_mem | with_reducible exact plain_ints | (refine le_maxLen ?_; omega) | (refine za9 ⟨?_,?_⟩) | (simp only [go_sem,Qc,Qb,zb1,zb2,forall_eq]; done)))
   refine Ok.weak (show Wk _ _ ⟨[(1000000000,.hdr 0 (u 0)),(6,.d (.int .i64 xd)),(3,.p 3 0),(2,.p 2 0),(0,.p 0 0)],[(3300001,.arr 27 1 (ds.map D.ints)),(3,.box 26 [.d (.int .i64 w),.sl 3300001]),(2,.box 26 [.d (.int .i64 0),.d (.slice [])]),(0,.box 79 [.d (.slice (code.map (.int .u8))),.d (.int .i64 (atd : Nat)),.d (.int .u64 sdd)])]⟩ from (Wk.kk)) ?_
   refine Ok.loopNO [55,54,53,52,51,50,49,48,47,46,45,44,43,42,41,40,39,38,37,36,35,34,33,32,31,30,29,28,27,26,25,24,23,22,21,20,19,18,17,16,15,14,13,12,11,10,9,8,7,6,5,4,1] (fun i (a : (List (List Int) × Int) × (Nat × Int)) => [(6,.d (.int .i64 a.1.2))])
    (fun _ (a : (List (List Int) × Int) × (Nat × Int)) => [(3300001,.arr 27 1 (a.1.1.map D.ints)),(0,.box 79 [.d (.slice (code.map (.int .u8))),.d (.int .i64 (a.2.1 : Nat)),.d (.int .u64 a.2.2)])]) xd.toNat
    (fun i a => a.1.2=xd - i∧a.1.1.length<=60 + i∧(∀ c ∈ a.1.1,c.length<=100)∧atd<=a.2.1∧a.2.1<=atd + 24 * i∧0<=a.2.2∧a.2.2 < 18446744073709551616) ((ds,xd),(atd,sdd)) ⟨by show xd=xd - ((0 : Nat) : Int); omega,by dsimp only; omega,fun c hc => by have:=(hd2 c hc).1; omega,Nat.le_refl _,Nat.le_refl _,hsdd1,hsdd2⟩ (Wk.kk) ?_
   rintro R i ⟨⟨o,n⟩,a,s⟩ hN hE1 hi ⟨hn,ho1,ho2,ha1,ha2,hs1,hs2⟩
   dsimp only at hn ho1 ho2 ha1 ha2 hs1 hs2 ⊢
   by_cases h0 : 0 < n∧0 < w
   . clear hE1 c5
     refine Ok.seq (Ok.go ?_)
     simp (disch:=first | omega | decide +kernel) only [go_sem,Qa,Qb,Qc,Qd,Qe,↓reduceIte,reduceCtorEq,Qf,Qg,Qh]
     (repeat' (first | ((first | (refine gsel_split (fun q' => ?_) (fun q' => ?_)<;>(have h':=q')<;>(try simp only [za1,za2,Ba,Bb,za3,ne_eq,za4,za5,za6,Ia,Ib,Ic,Ie,Da,Bc,Bd,Be,za7,za8] at h')<;>try (exfalso; omega)) | (have q':=trivial; first | refine hE _ _ ret_ne ?_ | refine hE _ _ exit_ne ?_))<;>(try simp (disch:=first | omega | decide +kernel) only [q',go_sem,Qa,Qb,Qc,Qd,Qe,↓reduceIte,reduceCtorEq,Qf,Qg,Qh])<;>clear q') | refine hN _ ?_ ?_ Wk.kk | with_reducible refine And.intro ?_ ?_ | with_reducible omega | exact ok_ints | exact cells_ints | exact no_mem | with_reducible exact plain_ints | (refine le_maxLen ?_; omega) | (refine za9 ⟨?_,?_⟩) | (simp only [go_sem,Qc,Qb,zb1,zb2,forall_eq]; done)))
     refine Ok.seq (Ok.block (Ok.reg7 [true,true,true,true,true,false,false,false,true,false] (by decide +kernel) ?_))
     simp (disch:=first | omega | decide +kernel) only [go_sem,Qa,Qb,Qc,Qd,Qe,↓reduceIte,reduceCtorEq,Qf,Qg,Qh]
     (repeat' (first | ((first | (refine gsel_split (fun q' => ?_) (fun q' => ?_)<;>(have h':=q')<;>(try simp only [za1,za2,Ba,Bb,za3,ne_eq,za4,za5,za6,Ia,Ib,Ic,Ie,Da,Bc,Bd,Be,za7,za8] at h')<;>try (exfalso; omega)) | (have q':=trivial; first | (refine callX_drawR _ (c7 _ (by omega)) ⟨.inl rfl,.inl rfl,trivial⟩ rfl (by decide) (by omega) (by omega) (by omega) (by omega) ?_; rintro ate sde _ hate1 hate2 hsde1 hsde2 ⟨xe,rfl,hxe⟩) | refine hE _ _ ret_ne ?_ | refine hE _ _ exit_ne ?_))<;>(try simp (disch:=first | omega | decide +kernel) only [q',curO,curB,D.bytes,go_sem,Qa,Qb,Qc,Qd,Qe,↓reduceIte,reduceCtorEq,Qf,Qg,Qh])<;>clear q') | refine hN _ ?_ ?_ Wk.kk | with_reducible refine And.intro ?_ ?_ | with_reducible omega | exact ok_ints | exact cells_ints | exact no_mem | with_reducible exact plain_ints | (refine le_maxLen ?_; omega) | (refine za9 ⟨?_,?_⟩) | (simp only [go_sem,Qc,Qb,zb1,zb2,forall_eq]; done)))
     refine Ok.go ?_
     simp (disch:=first | omega | decide +kernel) only [go_sem,Qa,Qb,Qc,Qd,Qe,↓reduceIte,reduceCtorEq,Qf,Qg,Qh]
     (repeat' (first | ((first | (refine gsel_split (fun q' => ?_) (fun q' => ?_)<;>(have h':=q')<;>(try simp only [za1,za2,Ba,Bb,za3,ne_eq,za4,za5,za6,Ia,Ib,Ic,Ie,Da,Bc,Bd,Be,za7,za8] at h')<;>try (exfalso; omega)) | (have q':=trivial; first | refine hE _ _ ret_ne ?_ | refine hE _ _ exit_ne ?_))<;>(try simp (disch:=first | omega | decide +kernel) only [q',go_sem,Qa,Qb,Qc,Qd,Qe,↓reduceIte,reduceCtorEq,Qf,Qg,Qh])<;>clear q') | refine hN _ ?_ ?_ Wk.kk | with_reducible refine And.intro ?_ ?_ | with_reducible omega | exact ok_ints | exact cells_ints | exact no_mem | with_reducible exact plain_ints | (refine le_maxLen ?_; omega) | (refine za9 ⟨?_,?_⟩) | (simp only [go_sem,Qc,Qb,zb1,zb2,forall_eq]; done)))
     refine hN ((o++[xe],n - 1),(ate,sde)) _ (by omega) ⟨by dsimp only; omega,by simp; omega,fun c hc => ?_,by dsimp only; omega,by dsimp only; omega,hsde1,hsde2⟩ (by refine Wk.auto ?_ ?_<;>simp [extraK,lk,killL,St.kill,wipeO,wipeS,AV.has,AV.hasL,AO.wipe,List.map_set,updSt,insL,dropS,ins,List.map_append,List.map_cons,List.map_nil,D.ints])
     rcases List.mem_append.1 hc with hc | hc
     . exact ho2 c hc
     . rw [List.mem_singleton] at hc; subst hc; have:=hxe.1; omega
   . clear hN
     refine Ok.go ?_
     simp (disch:=first | omega | decide +kernel) only [go_sem,Qa,Qb,Qc,Qd,Qe,↓reduceIte,reduceCtorEq,Qf,Qg,Qh]
     (repeat' (first | ((first | (refine gsel_split (fun q' => ?_) (fun q' => ?_)<;>(have h':=q')<;>(try simp only [za1,za2,Ba,Bb,za3,ne_eq,za4,za5,za6,Ia,Ib,Ic,Ie,Da,Bc,Bd,Be,za7,za8] at h')<;>try (exfalso; omega)) | (have q':=trivial; first | refine hE _ _ ret_ne ?_ | refine hE _ _ exit_ne ?_))<;>(try simp (disch:=first | omega | decide +kernel) only [q',go_sem,Qa,Qb,Qc,Qd,Qe,↓reduceIte,reduceCtorEq,Qf,Qg,Qh])<;>clear q') | refine hN _ ?_ ?_ Wk.kk | with_reducible refine And.intro ?_ ?_ | with_reducible omega | exact ok_ints | exact cells_ints | exact no_mem | with_reducible exact plain_ints | (refine le_maxLen ?_; omega) | (refine za9 ⟨?_,?_⟩) | (simp only [go_sem,Qc,Qb,zb1,zb2,forall_eq]; done)))
     all_goals (
      refine hE1 _ _ exit_ne ?_
      simp (disch:=first | omega | decide +kernel) only [go_sem,Qa,Qb,Qc,Qd,Qe,↓reduceIte,reduceCtorEq,Qf,Qg,Qh]
      refine Ok.go ?_
      simp (disch:=first | omega | decide +kernel) only [go_sem,Qa,Qb,Qc,Qd,Qe,↓reduceIte,reduceCtorEq,Qf,Qg,Qh]
      (repeat' (first | ((first | (refine gsel_split (fun q' => ?_) (fun q' => ?_)<;>(have h':=q')<;>(try simp only [za1,za2,Ba,Bb,za3,ne_eq,za4,za5,za6,Ia,Ib,Ic,Ie,Da,Bc,Bd,Be,za7,za8] at h')<;>try (exfalso; omega)) | (have q':=trivial; first | refine hE _ _ ret_ne ?_ | refine hE _ _ exit_ne ?_))<;>(try simp (disch:=first | omega | decide +kernel) only [q',go_sem,Qa,Qb,Qc,Qd,Qe,↓reduceIte,reduceCtorEq,Qf,Qg,Qh])<;>clear q') | refine hN _ ?_ ?_ Wk.kk | with_reducible refine And.intro ?_ ?_ | with_reducible omega | exact ok_ints | exact cells_ints | exact no_mem | with_reducible exact plain_ints | (refine le_maxLen ?_; omega) | (refine za9 ⟨?_,?_⟩) | (simp only [go_sem,Qc,Qb,zb1,zb2,forall_eq]; done)))
      refine endFK [3300001] ?_
      refine retR_drawC (code:=code) (at_:=at_) (k:=200) (Q:=QF) rfl rfl (by simp only [go_sem]) (by simp only [go_sem,List.length_cons,List.length_nil]) rfl (by simp only [go_sem]) rfl rfl (by omega) (by omega) hs1 hs2 ?_
      exact ⟨(w,o),rfl,by dsimp only; omega,by dsimp only; omega,by dsimp only; omega,ho2⟩)
end Abs.Y

namespace Abs.Y
open Go Go.Proofs Abs
open Nat renaming reduceEqDiff -> Qa, reduceLT -> Qb, reduceAdd -> Qc, reduceMul -> Qd, reduceSub -> Qe, reduceLeDiff -> Qf, reduceSubDiff -> Qg, reduceBEq -> Qh
open Bool renaming not_eq_true' -> Ba, not_eq_false' -> Bb, and_eq_true -> Bc, or_eq_true -> Bd, or_eq_false_iff -> Be
open Int renaming ofNat_lt -> Ia, ofNat_le -> Ib, not_lt -> Ic, not_le -> Ie
open Decidable renaming not_not -> Da
set_option maxRecDepth 100000
set_option maxHeartbeats 1000000

def Sn (n : Nat) (l : List Int) : Prop:=l.length<=n∧∀ x ∈ l,-9223372036854775808<=x∧x<=1000001
theorem SmN.sn {n m : Nat} {l : List Int} (h : SmN n l) (hm : n<=m) : Sn m l:=⟨Nat.le_trans h.1 hm,fun x hx => by have:=h.2 x hx; omega⟩
theorem Sn.set {n : Nat} {l : List Int} (h : Sn n l) {i : Nat} {y : Int} (hy : -9223372036854775808<=y∧y<=1000001) : Sn n (l.set i y):=by
 refine ⟨by simpa using h.1,fun x hx => ?_⟩
 rcases List.mem_or_eq_of_mem_set hx with hx | rfl
 . exact h.2 x hx
 . exact hy
theorem Sn.getD {n : Nat} {l : List Int} (h : Sn n l) {i : Nat} (hi : i < l.length) : -9223372036854775808<=l.getD i 0∧l.getD i 0<=1000001:=by
 refine h.2 _ ?_
 simp [List.getD_eq_getElem?_getD,hi]
theorem Sn.app {n : Nat} {l : List Int} (h : Sn n l) {y : Int} (hy : -9223372036854775808<=y∧y<=1000001) : Sn (n + 1) (l++[y]):=by
 refine ⟨by have:=h.1; simp; omega,fun x hx => ?_⟩
 rw [List.mem_append,List.mem_singleton] at hx
 rcases hx with hx | rfl
 . exact h.2 x hx
 . exact hy
theorem anyClause_ok {code : List Int} (hc : CodeOK code) (vars : Int) (hv : -1000000<=vars∧vars<=1000000) :
 DrawsR 55 [.d (.int .i64 vars)] 40 (QL (Sn 5)) code:=fun at_ seed h1 h2 h3 => by
 have c1 : DrawsR 110 [.d (.int .i64 vars)] 24 (QL fun l => l.length<=4∧SmN 4 l) code:=fun a b x y z => (dclause_ok hc vars hv a b x y z).mono fun _ _ ⟨at',s,o,e1,e2,e3,e4,e5,e6,x,e7,e8⟩ => ⟨at',s,o,e1,e2,e3,e4,e5,e6,x,e7,e8.1,e8⟩
 have c2:=pick_ok hc 32 (by omega)
 have c3:=lit_ok hc vars hv
 have c4:=amongB_ok hc [0,vars + 1,0 - vars - 1,-9223372036854775808] (-9223372036854775808) 1000001 (by simp) (by simp; omega)
 simp only [List.map_cons,List.map_nil] at c4
 have hei : ∀ (l : List Int) (i : Nat),i < l.length->el (l.map (D.int .i64)) i=.int .i64 (l.getD i 0):=fun l i h => el_ints h
 refine CtrR.of (n:=52) (rs:=[.tmp 4]) Try.func55 rfl rfl Try.ntmps55 rfl rfl (by kernel_rfl) Try.checked.mixed ?_; intro u
 have hei2 : ∀ (l : List Int) (i : Nat) (y : Int) (j : Nat),j < l.length->el ((l.set i y).map (D.int .i64)) j=.int .i64 ((l.set i y).getD j 0):=fun l i y j h => el_ints (by simpa using h)
 have t1 : Int.toNat 1=1:=rfl
 have hms : ∀ (l : List Int) (i : Nat) (y : Int),(l.map (D.int .i64)).set i (.int .i64 y)=(l.set i y).map (D.int .i64):=fun l i y => by rw [List.map_set]
 have hma : ∀ (l : List Int) (y : Int),(l.map (D.int .i64))++[.int .i64 y]=(l++[y]).map (D.int .i64):=fun l y => by simp
 simp (disch:=first | omega | decide +kernel) only [curO,curB,D.bytes,go_sem,Qa,Qb,Qc,Qd,Qe,↓reduceIte,reduceCtorEq,Qf,Qg,Qh]
 (repeat' (first | ((first | (refine gsel_split (fun q' => ?_) (fun q' => ?_)<;>(have h':=q')<;>(try simp only [za1,za2,Ba,Bb,za3,ne_eq,za4,za5,za6,Ia,Ib,Ic,Ie,Da,Bc,Bd,Be,za7,za8] at h')<;>try (exfalso; omega)) | (have q':=trivial; first | (refine callX_drawR _ (c1) ⟨.inl rfl,.inl rfl,trivial⟩ rfl (by decide) (by omega) (by omega) (by omega) (by omega) ?_; rintro ata sda _ hata1 hata2 hsda1 hsda2 ⟨xa,rfl,hxa⟩) | (refine callX_draw _ (c2) ⟨.inl rfl,.inl rfl,trivial⟩ rfl (by simp [dstB]) (by omega) (by omega) (by omega) ?_; rintro _ atb sdb hatb1 hatb2 hsdb1 hsdb2 ⟨xb,rfl,hxb⟩) | (refine callX_draw _ (c3) ⟨.inl rfl,.inl rfl,trivial⟩ rfl (by simp [dstB]) (by omega) (by omega) (by omega) ?_; rintro _ atc sdc hatc1 hatc2 hsdc1 hsdc2 ⟨xc,rfl,hxc⟩) | (refine callX_drawL _ _ (c4) ⟨.inl rfl,.inl rfl,trivial⟩ rfl rfl (by decide) (by simp [dstB]) (by omega) (by omega) (by omega) ?_; rintro _ at1 sd1 hat1 hat2 hsd1 hsd2 ⟨x1,rfl,hx1⟩) | refine hE _ _ ret_ne ?_ | refine hE _ _ exit_ne ?_))<;>(try simp (disch:=first | omega | decide +kernel) only [q',curO,curB,D.bytes,hei,hei2,t1,hms,hma,List.length_set,List.length_map,go_sem,Qa,Qb,Qc,Qd,Qe,↓reduceIte,reduceCtorEq,Qf,Qg,Qh])<;>clear q') | refine hN _ ?_ ?_ Wk.kk | with_reducible refine And.intro ?_ ?_ | with_reducible omega | exact ok_ints | exact cells_ints | exact no_mem | with_reducible exact plain_ints | (refine le_maxLen ?_; omega) | (refine za9 ⟨?_,?_⟩) | (simp only [go_sem,Qc,Qb,zb1,zb2,forall_eq]; done)))
 all_goals (first | omega | (simp only [List.length_set]; omega) | refine retR_drawR rfl rfl rfl rfl (by decide) (by omega) (by omega) (by omega) (by omega) ?_)
 all_goals have hs:=hxa.2
 all_goals (first | exact hs.sn (by omega) | exact (hs.sn (Nat.le_refl _)).app (by omega) | exact (hs.sn (by omega)).set (by omega) | exact ((hs.sn (by omega)).set ((hs.sn (Nat.le_refl _)).getD (by omega))).set ((hs.sn (Nat.le_refl _)).getD (by omega)))
end Abs.Y
