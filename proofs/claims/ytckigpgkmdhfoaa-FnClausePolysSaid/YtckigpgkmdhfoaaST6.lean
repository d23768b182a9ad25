/- What functions of this program compute, over plain data. No condition. -/
import Derived.Test.YtckigpgkmdhfoaaR5
set_option linter.all false
open Nat renaming reduceEqDiff -> Qa, reduceLT -> Qb, reduceAdd -> Qc, reduceMul -> Qd, reduceSub -> Qe, reduceLeDiff -> Qf, reduceSubDiff -> Qg, reduceBEq -> Qh
open Bool renaming not_eq_true' -> Ba, not_eq_false' -> Bb, and_eq_true -> Bc, or_eq_true -> Bh, or_eq_false_iff -> Be
open Int renaming ofNat_lt -> Ia, ofNat_le -> Ib, not_lt -> Ic, not_le -> Ie
open Decidable renaming not_not -> Da
namespace Abs
open Go Go.Proofs
theorem retR_cstd {P : Program} {a b i j : Nat} {t e : TypeId} {x y : D} {o1 : AO} {st : St} {u : Nat->Value} {R : AV->List (Nat × AO)->Prop} (h : lk a st.s=some (.p j 0)) (hj : lk j st.o=some (.box e [.d x,.sl i])) (hag : aggT P t=true) (hn : P.cellsOf t=2) (hu : (P.underlying t).isSome=true) (h' : lk b st.s=some (.d y))
 (k1 : lk i st.o=some o1) (r1 : ∀ f,o1.ren f=o1) (hR : R (.tup [.st [.d x,.sl 1],.d y]) [(1,o1)]) : retR P [.cell a t,.tmp b] u [] true R .ret st:=by
 have hl : (lk a st.s).bind (loadV P st.o t)=some (0 + P.cellsOf t<=2∧(P.underlying t).isSome=true,.st [.d x,.sl i]):=by
  rw [h,Option.bind_some,loadV,hj]
  simp only [hag,if_true,List.drop_zero,hn,List.length_cons,List.length_nil,List.take_succ_cons,List.take_zero,allD]
 refine ⟨_,_,hR,?_⟩
 simp only [retM,resV,hl,h']
 refine ⟨⟨hu,⟨by omega,hu⟩,trivial⟩,⟨fun _ => i,rfl,?_,?_,trivial⟩,.inl trivial⟩
 . intro p hp
   obtain rfl:=List.mem_singleton.1 hp
   simpa [r1] using k1
 . intro p hp q hq _
   obtain rfl:=List.mem_singleton.1 hp
   obtain rfl:=List.mem_singleton.1 hq
   rfl
theorem retR_f {P : Program} {a i : Nat} {es : List D} {st : St} {u : Nat->Value} {R : AV->List (Nat × AO)->Prop} (h : lk a (frzs [i] st).s=some (.d (.slice es))) (hR : R (.d (.slice es)) []) : retR P [.tmp a] u [] true R .ret (frzs [i] st):=by
 refine ⟨_,_,hR,?_⟩
 simp only [retM,resV,h]
 exact ⟨trivial,⟨fun q => q,rfl,by simp,by simp,trivial⟩,.inl trivial⟩
end Abs
namespace Abs.Y
open Go Go.Proofs Abs
set_option maxRecDepth 100000

theorem l2Known_ok (s : ByteArray) (hs : s.size<=1000000) : CtrR Try.prog 150 [.d (.str s)] [] [] true fun r oo => oo=[]∧∃ x : Int × List (List Int),r=.d (.agg [.int .i64 x.1,.slice (x.2.map D.ints)])∧FOK x.1 x.2:=by
 have c1:=parseCnf_ok s hs
 refine CtrR.of (n:=11) (rs:=[.cell 2 26]) Try.func150 rfl rfl Try.ntmps150 rfl rfl (by kernel_rfl) Try.checked.mixed ?_; intro u
 simp (disch:=first | omega | decide +kernel) only [go_sem,Qa,Qb,Qc,Qd,Qe,↓reduceIte,reduceCtorEq,Qf,Qg,Qh]
 (repeat' (first | ((first | (refine gsel_split (fun q' => ?_) (fun q' => ?_)<;>(have h':=q')<;>(try simp only [za1,za2,Ba,Bb,za3,ne_eq,za4,za5,za6,Ia,Ib,Ic,Ie,Da,Bc,Bh,Be,za7,za8] at h')<;>try (exfalso; omega)) | (have q':=trivial; first | (refine callX_rels (c1) ⟨.inl rfl,trivial⟩ (by simp [dstB]) ?_; rintro _ ⟨xa,rfl,hxa⟩) | (refine callX_rels (c1) ⟨.inr ⟨rfl,_,rfl,rfl⟩,trivial⟩ (by simp [dstB]) ?_; rintro _ ⟨xa,rfl,hxa⟩) | refine hE _ _ ret_ne ?_ | refine hE _ _ exit_ne ?_))<;>(try simp (disch:=first | omega | decide +kernel) only [q',go_sem,Qa,Qb,Qc,Qd,Qe,↓reduceIte,reduceCtorEq,Qf,Qg,Qh])<;>clear q') | refine hN _ ?_ ?_ Wk.kk | with_reducible refine And.intro ?_ ?_ | with_reducible omega | exact ok_ints | exact cells_ints | exact no_mem | with_reducible exact plain_ints | (refine le_maxLen ?_; omega) | (refine za9 ⟨?_,?_⟩) | (simp only [go_sem,Qc,Qb,zb1,zb2,forall_eq]; done)))
 all_goals (first | exact retR_c rfl rfl (by simp only [go_sem]) (by simp only [go_sem,List.length_cons,List.length_nil]) rfl (by simp only [go_sem]) ⟨rfl,(xa.1.1,xa.1.2),rfl,hxa⟩)
theorem l2Hard_ok : CtrR Try.prog 152 [] [] [] true fun r oo => oo=[]∧∃ ss : List ByteArray,r=.d (.slice (ss.map .str))∧1<=ss.length∧ss.length<=60000∧∀ s ∈ ss,s.size<=1000000:=by
 refine CtrR.ofO (n:=2) (rs:=[.tmp 0]) Try.func152 rfl rfl Try.ntmps152 rfl rfl (by kernel_rfl) Try.checked.mixed ?_; intro u
 refine Ok.endsW ?_
 refine Ok.go ?_
 simp (disch:=first | omega | decide +kernel) only [go_sem,Qa,Qb,Qc,Qd,Qe,↓reduceIte,reduceCtorEq,Qf,Qg,Qh]
 (repeat' (first | ((first | (refine gsel_split (fun q' => ?_) (fun q' => ?_)<;>(have h':=q')<;>(try simp only [za1,za2,Ba,Bb,za3,ne_eq,za4,za5,za6,Ia,Ib,Ic,Ie,Da,Bc,Bh,Be,za7,za8] at h')<;>try (exfalso; omega)) | (have q':=trivial; first | refine hE _ _ ret_ne ?_ | refine hE _ _ exit_ne ?_))<;>(try simp (disch:=first | omega | decide +kernel) only [q',go_sem,Qa,Qb,Qc,Qd,Qe,↓reduceIte,reduceCtorEq,Qf,Qg,Qh])<;>clear q') | refine hN _ ?_ ?_ Wk.kk | with_reducible refine And.intro ?_ ?_ | with_reducible omega | exact ok_ints | exact cells_ints | exact no_mem | with_reducible exact plain_ints | (refine le_maxLen ?_; omega) | (refine za9 ⟨?_,?_⟩) | (simp only [go_sem,Qc,Qb,zb1,zb2,forall_eq]; done)))
 refine endF [1] (retR_f rfl ⟨rfl,[_,_,_,_,_,_,_,_,_,_,_,_,_,_,_],rfl,?_,?_,?_⟩)
 . decide +kernel
 . decide +kernel
 . decide +kernel
theorem of_ok {code : List Int} (hc : CodeOK code) (ss : List ByteArray) (hl : 1<=ss.length∧ss.length<=60000) :
 Draws 151 [.d (.slice (ss.map .str))] 2 (fun r => ∃ s : ByteArray,r=.d (.str s)∧s ∈ ss) code:=fun at_ seed h1 h2 h3 => by
 have c1:=pick_ok hc (ss.length : Nat) (by omega)
 have hei : ∀ x : Int,0<=x->x < ss.length->el (ss.map D.str) x.toNat=.str (ss.getD x.toNat ByteArray.empty):=fun x hx hl => el_map (f:=D.str) ByteArray.empty (by omega)
 have hm : ∀ x : Int,0<=x->x < ss.length->ss.getD x.toNat ByteArray.empty ∈ ss:=fun x hx hl => getD_mem (by omega)
 refine CtrR.of (n:=12) (rs:=[.tmp 4]) Try.func151 rfl rfl Try.ntmps151 rfl rfl (by kernel_rfl) Try.checked.mixed ?_; intro u
 simp (disch:=first | omega | decide +kernel) only [curO,curB,D.bytes,go_sem,Qa,Qb,Qc,Qd,Qe,↓reduceIte,reduceCtorEq,Qf,Qg,Qh]
 (repeat' (first | ((first | (refine gsel_split (fun q' => ?_) (fun q' => ?_)<;>(have h':=q')<;>(try simp only [za1,za2,Ba,Bb,za3,ne_eq,za4,za5,za6,Ia,Ib,Ic,Ie,Da,Bc,Bh,Be,za7,za8] at h')<;>try (exfalso; omega)) | (have q':=trivial; first | (refine callX_draw _ (c1) ⟨.inl rfl,.inl rfl,trivial⟩ rfl (by simp [dstB]) (by omega) (by omega) (by omega) ?_; rintro _ at1 sd1 hat11 hat12 hsd11 hsd12 ⟨x1,rfl,hx1⟩) | refine hE _ _ ret_ne ?_ | refine hE _ _ exit_ne ?_))<;>(try simp (disch:=first | omega | decide +kernel) only [q',curO,curB,D.bytes,hei,List.length_map,go_sem,Qa,Qb,Qc,Qd,Qe,↓reduceIte,reduceCtorEq,Qf,Qg,Qh])<;>clear q') | refine hN _ ?_ ?_ Wk.kk | with_reducible refine And.intro ?_ ?_ | with_reducible omega | exact ok_ints | exact cells_ints | exact no_mem | with_reducible exact plain_ints | (refine le_maxLen ?_; omega) | (refine za9 ⟨?_,?_⟩) | (simp only [go_sem,Qc,Qb,zb1,zb2,forall_eq]; done)))
 all_goals (first | omega | (exact retR_draw rfl rfl rfl (by omega) (by omega) (by omega) (by omega) ⟨_,rfl,hm _ (by omega) (by omega)⟩))
structure ToOK (u : Int) (to : List Int) : Prop where
 v : 0<=u∧u<=12
 n : (to.length : Int)=u
 a : ∀ i,i < to.length->(to.getD i 0).natAbs=i + 1
theorem mem_putI_bd {q : List Int} {y : Int} (h : ∀ l ∈ q,-1000001<=l∧l<=1000001) (hy : -1000001<=y∧y<=1000001) {x : Int} (hx : x ∈ putI q y) : -1000001<=x∧x<=1000001:=by
 rw [putI,List.mem_append,List.mem_cons] at hx
 rcases hx with hx | rfl | hx
 . exact h x ((List.takeWhile_sublist _).mem hx)
 . exact hy
 . exact h x ((List.dropWhile_sublist _).mem hx)
theorem okAt_of {w : Int} {c : List Int} (h : okClause w c=true) {k : Nat} (hk : k < c.length) : c.getD k 0 ≠ 0∧-w<=c.getD k 0∧c.getD k 0<=w:=by
 simp only [okClause,Bc,decide_eq_true_eq] at h
 exact (h.2 k hk).1
theorem renameCnf_ok (w : Int) (cs : List (List Int)) (to : List Int) (hf : FOK w cs) (ht : ToOK w to) :
 CtrR Try.prog 153 [.d (.agg [.int .i64 w,.slice (cs.map D.ints)]),.d (.ints to)] [] [] true fun r oo => ∃ ds : List (List Int),r=.tup [.st [.d (.int .i64 w),.sl 1],.d (.bool true)]∧oo=[(1,.arr 27 1 (ds.map D.ints))]∧ds.length<=60∧∀ d ∈ ds,d.length<=12∧∀ l ∈ d,-1000001<=l∧l<=1000001:=by
 have hv:=hf.v
 have hn:=hf.n
 have htn:=ht.n
 have hk : okCnf w cs=true:=by
  simp only [okCnf,Bc,decide_eq_true_eq,List.all_eq_true]
  exact ⟨⟨okVars_iff.2 hv,hn⟩,hf.k⟩
 have c1:=l2Good_ok w cs (by omega) fun j => by
  by_cases hj : j < cs.length
  . have:=(bd12 (hf.k _ (getD_mem (z:=([] : List Int)) hj))).1; omega
  . rw [List.getD_eq_getElem?_getD,List.getElem?_eq_none (by omega)]; simp
 rw [hk] at c1
 have hta : ∀ i,i < to.length->okLit w (to.getD i 0)=true:=fun i hi => (okLit_iff (okVars_iff.2 hv)).2 (by have:=ht.a i hi; omega)
 have hth : ∀ (i : Nat) (n : Int),i < to.length->n.natAbs=i + 1->(to.take i).any (· == n)=false:=fun i n hi hn => by
  rw [List.any_eq_false]
  intro x hx
  obtain ⟨j,hj,rfl⟩:=List.mem_iff_getElem.1 hx
  rw [List.length_take] at hj
  have h1:=ht.a j (by omega)
  rw [List.getElem_take]
  rw [show to.getD j 0=to[j]'(by omega) by simp [List.getD_eq_getElem?_getD,show j < to.length by omega]] at h1
  simp only [beq_iff_eq]
  intro e; rw [e] at h1; omega
 refine CtrR.ofO (n:=110) (rs:=[.cell 4 26,.tmp 5]) Try.func153 rfl rfl Try.ntmps153 rfl rfl (by kernel_rfl) Try.checked.mixed ?_; intro u
 refine Ok.endsW ?_
 refine Ok.go ?_
 simp (disch:=first | omega | decide +kernel) only [D.ints,go_sem,Qa,Qb,Qc,Qd,Qe,↓reduceIte,reduceCtorEq,Qf,Qg,Qh]
 (repeat' (first | ((first | (refine gsel_split (fun q' => ?_) (fun q' => ?_)<;>(have h':=q')<;>(try simp only [za1,za2,Ba,Bb,za3,ne_eq,za4,za5,za6,Ia,Ib,Ic,Ie,Da,Bc,Bh,Be,za7,za8] at h')<;>try (exfalso; omega)) | (have q':=trivial; first | refine callX_new (c1) rfl (by decide) ?_ | refine callY_new (c1) rfl ?_ | refine hE _ _ ret_ne ?_ | refine hE _ _ exit_ne ?_))<;>(try simp (disch:=first | omega | decide +kernel) only [q',D.ints,go_sem,Qa,Qb,Qc,Qd,Qe,↓reduceIte,reduceCtorEq,Qf,Qg,Qh])<;>clear q') | refine hN _ ?_ ?_ Wk.kk | with_reducible refine And.intro ?_ ?_ | with_reducible omega | exact ok_ints | exact cells_ints | exact no_mem | with_reducible exact plain_ints | (refine le_maxLen ?_; omega) | (refine za9 ⟨?_,?_⟩) | (simp only [go_sem,Qc,Qb,zb1,zb2,forall_eq]; done)))
 refine Ok.loopN [109,108,107,106,105,104,103,102,101,100,99,98,97,96,95,94,93,92,91,90,89,88,87,86,85,84,83,82,81,80,79,78,77,76,75,74,73,72,71,70,69,68,67,66,65,64,63,62,61,60,59,58,57,56,55,54,53,52,51,50,49,48,47,46,45,44,43,42,41,40,39,38,37,36,35,34,33,32,31,30,29,28,27,26,25,24,23,22,21,20,19,18,17,16,15,14,13,12,11,10,9,8,7,6,3] (fun i (_ : Unit) => [(6,.d (.int .i64 (i : Nat)))]) (fun _ _ => []) to.length (fun _ _ => True) () trivial (Wk.kk) ?_
 rintro R i _ hN hE hi _
 by_cases hlt : i < to.length
 . have hei : el (to.map (D.int .i64)) i=.int .i64 (to.getD i 0):=el_ints hlt
   have c2:=l2Lit_ok w (to.getD i 0)
   have c3:=l2Has_ok (to.take i) (to.getD i 0) (by rw [List.length_take]; omega)
   have c4:=l2Has_ok (to.take i) (0 - to.getD i 0) (by rw [List.length_take]; omega)
   have hai:=ht.a i hlt
   rw [hta i hlt] at c2
   rw [hth i _ hlt hai] at c3
   rw [hth i _ hlt (by omega)] at c4
   simp only [D.ints] at c3 c4
   have hl1 : ∀ {es : List D},es=to.map (D.int .i64)->es.length=to.length:=fun h => by rw [h]; simp
   simp (disch:=first | omega | decide +kernel) only [Int.toNat_natCast,D.ints,hei,List.length_map,Option.isSome_none,Bool.false_eq_true,if_false,go_sem,Qa,Qb,Qc,Qd,Qe,↓reduceIte,reduceCtorEq,Qf,Qg,Qh]
   (repeat' (first | ((first | (refine gsel_split (fun q' => ?_) (fun q' => ?_)<;>(have h':=q')<;>(try simp only [za1,za2,Ba,Bb,za3,ne_eq,za4,za5,za6,Ia,Ib,Ic,Ie,Da,Bc,Bh,Be,za7,za8] at h')<;>try (exfalso; omega)) | (have q':=trivial; first | refine callX_new (c2) rfl (by decide) ?_ | refine callY_new (c2) rfl ?_ | refine callX_new (c3) rfl (by decide) ?_ | refine callY_new (c3) rfl ?_ | refine callX_new (c4) rfl (by decide) ?_ | refine callY_new (c4) rfl ?_ | refine hE _ _ ret_ne ?_ | refine hE _ _ exit_ne ?_))<;>(try simp (disch:=first | omega | decide +kernel) only [q',Int.toNat_natCast,D.ints,hei,List.length_map,Option.isSome_none,Bool.false_eq_true,if_false,go_sem,Qa,Qb,Qc,Qd,Qe,↓reduceIte,reduceCtorEq,Qf,Qg,Qh])<;>clear q') | refine hN _ ?_ ?_ Wk.kk | with_reducible refine And.intro ?_ ?_ | with_reducible omega | exact ok_ints | exact cells_ints | exact no_mem | with_reducible exact plain_ints | (refine le_maxLen ?_; omega) | (refine za9 ⟨?_,?_⟩) | (simp only [go_sem,Qc,Qb,zb1,zb2,forall_eq]; done)))
   all_goals (first | exact hN () _ hlt trivial (by refine Wk.auto ?_ ?_<;>simp [extraK,lk,killL,St.kill,wipeO,wipeS,AV.has,AV.hasL,AO.wipe,List.map_set,updSt,insL,dropS,ins,]))
 . clear hN
   simp (disch:=first | omega | decide +kernel) only [Int.toNat_natCast,D.ints,List.length_map,go_sem,Qa,Qb,Qc,Qd,Qe,↓reduceIte,reduceCtorEq,Qf,Qg,Qh]
   (repeat' (first | ((first | (refine gsel_split (fun q' => ?_) (fun q' => ?_)<;>(have h':=q')<;>(try simp only [za1,za2,Ba,Bb,za3,ne_eq,za4,za5,za6,Ia,Ib,Ic,Ie,Da,Bc,Bh,Be,za7,za8] at h')<;>try (exfalso; omega)) | (have q':=trivial; first | refine hE _ _ ret_ne ?_ | refine hE _ _ exit_ne ?_))<;>(try simp (disch:=first | omega | decide +kernel) only [q',Int.toNat_natCast,D.ints,List.length_map,go_sem,Qa,Qb,Qc,Qd,Qe,↓reduceIte,reduceCtorEq,Qf,Qg,Qh])<;>clear q') | refine hN _ ?_ ?_ Wk.kk | with_reducible refine And.intro ?_ ?_ | with_reducible omega | exact ok_ints | exact cells_ints | exact no_mem | with_reducible exact plain_ints | (refine le_maxLen ?_; omega) | (refine za9 ⟨?_,?_⟩) | (simp only [go_sem,Qc,Qb,zb1,zb2,forall_eq]; done)))
   refine Ok.loopN [109,108,107,106,105,104,103,102,101,100,99,98,97,96,95,94,93,92,91,90,89,88,87,86,85,84,83,82,81,80,79,78,77,76,75,74,73,72,71,70,69,68,67,66,65,64,63,62,61,60,59,58,57,56,55,54,53,52,51,50,49,48,47,46,45,44,43,42,41,40,39,38,37,36,35,34,33,32,31,30,29,28,27,26,25,24,23,22,21,20,19,18,17,16,15,14,13,12,11,10,9,8,6,3] (fun i (_ : List (List Int)) => [(8,.d (.int .i64 (i : Nat)))]) (fun _ (o : List (List Int)) => [(62,.arr 27 1 (o.map D.ints))]) cs.length (fun i o => o.length=i∧∀ d ∈ o,d.length<=12∧∀ l ∈ d,-1000001<=l∧l<=1000001) [] ⟨rfl,fun l hl => nomatch hl⟩ (Wk.kk) ?_
   rintro R2 i2 o hN hE2 hi2 ⟨ho1,ho2⟩
   by_cases hlt2 : i2 < cs.length
   . have hei:=el_intss (xs:=cs) hlt2
     have hm:=bd12 (hf.k _ (getD_mem (z:=([] : List Int)) hlt2))
     have hmo:=hf.k _ (getD_mem (z:=([] : List Int)) hlt2)
     generalize cs.getD i2 []=c at *
     simp (disch:=first | omega | decide +kernel) only [Int.toNat_natCast,D.ints,hei,List.length_map,go_sem,Qa,Qb,Qc,Qd,Qe,↓reduceIte,reduceCtorEq,Qf,Qg,Qh]
     (repeat' (first | ((first | (refine gsel_split (fun q' => ?_) (fun q' => ?_)<;>(have h':=q')<;>(try simp only [za1,za2,Ba,Bb,za3,ne_eq,za4,za5,za6,Ia,Ib,Ic,Ie,Da,Bc,Bh,Be,za7,za8] at h')<;>try (exfalso; omega)) | (have q':=trivial; first | refine hE _ _ ret_ne ?_ | refine hE _ _ exit_ne ?_))<;>(try simp (disch:=first | omega | decide +kernel) only [q',Int.toNat_natCast,D.ints,hei,List.length_map,go_sem,Qa,Qb,Qc,Qd,Qe,↓reduceIte,reduceCtorEq,Qf,Qg,Qh])<;>clear q') | refine hN _ ?_ ?_ Wk.kk | with_reducible refine And.intro ?_ ?_ | with_reducible omega | exact ok_ints | exact cells_ints | exact no_mem | with_reducible exact plain_ints | (refine le_maxLen ?_; omega) | (refine za9 ⟨?_,?_⟩) | (simp only [go_sem,Qc,Qb,zb1,zb2,forall_eq]; done)))
     refine Ok.loopN [109,108,107,106,105,104,103,102,101,100,99,98,97,96,95,94,93,92,91,90,89,88,87,86,85,84,83,82,81,80,79,78,77,76,75,74,73,72,71,70,69,68,67,66,65,64,63,62,61,60,59,58,57,56,55,54,53,52,51,50,49,48,47,46,45,44,43,42,41,40,39,38,37,36,35,34,33,32,31,30,29,28,27,26,25,24,23,22,21,20,19,18,17,16,15,14,13,12,11,10,9,6,3] (fun i (_ : List Int) => [(10,.d (.int .i64 (i : Nat))),(9,.sl 71)]) (fun _ (o : List Int) => [(71,.arr 3 1 (o.map (.int .i64)))]) c.length (fun i o => o.length=i∧∀ l ∈ o,-1000001<=l∧l<=1000001) [] ⟨rfl,fun l hl => nomatch hl⟩ (Wk.kk) ?_
     rintro R3 k q hN3 hE3 hk3 ⟨hq1,hq2⟩
     by_cases hlt3 : k < c.length
     . have hek : el (c.map (D.int .i64)) k=.int .i64 (c.getD k 0):=el_ints hlt3
       have hlb:=hm.2 _ (getD_mem (z:=(0 : Int)) hlt3)
       have hlv:=okAt_of hmo hlt3
       have c2:=l2Var_ok (c.getD k 0)
       generalize c.getD k 0=l at *
       have hva : varI l=(l.natAbs : Int):=varI_eq (by omega)
       rw [hva] at c2
       have htl : l.natAbs - 1 < to.length:=by omega
       have het : el (to.map (D.int .i64)) (l.natAbs - 1)=.int .i64 (to.getD (l.natAbs - 1) 0):=el_ints htl
       have e1 : ((l.natAbs : Int) - 1).toNat=l.natAbs - 1:=by omega
       have hta2:=ht.a _ htl
       generalize to.getD (l.natAbs - 1) 0=y at *
       have c3:=fun z : Int => l2Put_ok q z (by omega)
       simp only [D.ints] at c3
       clear hN hE
       simp (disch:=first | omega | decide +kernel) only [Int.toNat_natCast,D.ints,hei,hek,List.length_map,go_sem,Qa,Qb,Qc,Qd,Qe,↓reduceIte,reduceCtorEq,Qf,Qg,Qh]
       (repeat' (first | ((first | (refine gsel_split (fun q' => ?_) (fun q' => ?_)<;>(have h':=q')<;>(try simp only [za1,za2,Ba,Bb,za3,ne_eq,za4,za5,za6,Ia,Ib,Ic,Ie,Da,Bc,Bh,Be,za7,za8] at h')<;>try (exfalso; omega)) | (have q':=trivial; first | refine callX_new (c2) rfl (by decide) ?_ | refine callY_new (c2) rfl ?_ | refine callX_new (c3 _) rfl (by decide) ?_ | refine callY_new (c3 _) rfl ?_ | refine hE _ _ ret_ne ?_ | refine hE _ _ exit_ne ?_))<;>(try simp (disch:=first | omega | decide +kernel) only [q',Int.toNat_natCast,D.ints,hei,hek,het,e1,List.length_map,go_sem,Qa,Qb,Qc,Qd,Qe,↓reduceIte,reduceCtorEq,Qf,Qg,Qh])<;>clear q') | refine hN _ ?_ ?_ Wk.kk | with_reducible refine And.intro ?_ ?_ | with_reducible omega | exact ok_ints | exact cells_ints | exact no_mem | with_reducible exact plain_ints | (refine le_maxLen ?_; omega) | (refine za9 ⟨?_,?_⟩) | (simp only [go_sem,Qc,Qb,zb1,zb2,forall_eq]; done)))
       . refine hN3 (putI q (0 - y)) _ hlt3 ⟨by rw [length_putI]; omega,fun x hx => mem_putI_bd hq2 (by omega) hx⟩ ((Wk.swp 10300000 71).trans (by refine Wk.auto ?_ ?_<;>simp [extraK,lk,killL,St.kill,wipeO,wipeS,AV.has,AV.hasL,AO.wipe,List.map_set,updSt,insL,dropS,ins,swpS,swpO,swp,AV.ren,AV.renL,AO.ren]))
       . refine hN3 (putI q y) _ hlt3 ⟨by rw [length_putI]; omega,fun x hx => mem_putI_bd hq2 (by omega) hx⟩ ((Wk.swp 10300000 71).trans (by refine Wk.auto ?_ ?_<;>simp [extraK,lk,killL,St.kill,wipeO,wipeS,AV.has,AV.hasL,AO.wipe,List.map_set,updSt,insL,dropS,ins,swpS,swpO,swp,AV.ren,AV.renL,AO.ren]))
     . clear hN3
       simp (disch:=first | omega | decide +kernel) only [Int.toNat_natCast,D.ints,hei,List.length_map,go_sem,Qa,Qb,Qc,Qd,Qe,↓reduceIte,reduceCtorEq,Qf,Qg,Qh]
       (repeat' (first | ((first | (refine gsel_split (fun q' => ?_) (fun q' => ?_)<;>(have h':=q')<;>(try simp only [za1,za2,Ba,Bb,za3,ne_eq,za4,za5,za6,Ia,Ib,Ic,Ie,Da,Bc,Bh,Be,za7,za8] at h')<;>try (exfalso; omega)) | (have q':=trivial; first | refine hE _ _ ret_ne ?_ | refine hE _ _ exit_ne ?_))<;>(try simp (disch:=first | omega | decide +kernel) only [q',Int.toNat_natCast,D.ints,hei,List.length_map,go_sem,Qa,Qb,Qc,Qd,Qe,↓reduceIte,reduceCtorEq,Qf,Qg,Qh])<;>clear q') | refine hN _ ?_ ?_ Wk.kk | with_reducible refine And.intro ?_ ?_ | with_reducible omega | exact ok_ints | exact cells_ints | exact no_mem | with_reducible exact plain_ints | (refine le_maxLen ?_; omega) | (refine za9 ⟨?_,?_⟩) | (simp only [go_sem,Qc,Qb,zb1,zb2,forall_eq]; done)))
       refine hE3 _ _ exit_ne ?_
       simp (disch:=first | omega | decide +kernel) only [Int.toNat_natCast,D.ints,go_sem,Qa,Qb,Qc,Qd,Qe,↓reduceIte,reduceCtorEq,Qf,Qg,Qh]
       (repeat' (first | ((first | (refine gsel_split (fun q' => ?_) (fun q' => ?_)<;>(have h':=q')<;>(try simp only [za1,za2,Ba,Bb,za3,ne_eq,za4,za5,za6,Ia,Ib,Ic,Ie,Da,Bc,Bh,Be,za7,za8] at h')<;>try (exfalso; omega)) | (have q':=trivial; first | refine hE _ _ ret_ne ?_ | refine hE _ _ exit_ne ?_))<;>(try simp (disch:=first | omega | decide +kernel) only [q',Int.toNat_natCast,D.ints,go_sem,Qa,Qb,Qc,Qd,Qe,↓reduceIte,reduceCtorEq,Qf,Qg,Qh])<;>clear q') | refine hN _ ?_ ?_ Wk.kk | with_reducible refine And.intro ?_ ?_ | with_reducible omega | exact ok_ints | exact cells_ints | exact no_mem | with_reducible exact plain_ints | (refine le_maxLen ?_; omega) | (refine za9 ⟨?_,?_⟩) | (simp only [go_sem,Qc,Qb,zb1,zb2,forall_eq]; done)))
       refine hN (o++[q]) _ hlt2 ⟨by simp [ho1],fun d hd => ?_⟩ (by refine Wk.auto ?_ ?_<;>simp [extraK,lk,killL,St.kill,wipeO,wipeS,AV.has,AV.hasL,AO.wipe,List.map_set,updSt,insL,dropS,ins,List.map_append,List.map_cons,List.map_nil,D.ints])
       rcases List.mem_append.1 hd with hd | hd
       . exact ho2 d hd
       . rw [List.mem_singleton] at hd; subst hd; exact ⟨by omega,hq2⟩
   . clear hN
     simp (disch:=first | omega | decide +kernel) only [Int.toNat_natCast,D.ints,List.length_map,go_sem,Qa,Qb,Qc,Qd,Qe,↓reduceIte,reduceCtorEq,Qf,Qg,Qh]
     (repeat' (first | ((first | (refine gsel_split (fun q' => ?_) (fun q' => ?_)<;>(have h':=q')<;>(try simp only [za1,za2,Ba,Bb,za3,ne_eq,za4,za5,za6,Ia,Ib,Ic,Ie,Da,Bc,Bh,Be,za7,za8] at h')<;>try (exfalso; omega)) | (have q':=trivial; first | refine hE _ _ ret_ne ?_ | refine hE _ _ exit_ne ?_))<;>(try simp (disch:=first | omega | decide +kernel) only [q',Int.toNat_natCast,D.ints,List.length_map,go_sem,Qa,Qb,Qc,Qd,Qe,↓reduceIte,reduceCtorEq,Qf,Qg,Qh])<;>clear q') | refine hN _ ?_ ?_ Wk.kk | with_reducible refine And.intro ?_ ?_ | with_reducible omega | exact ok_ints | exact cells_ints | exact no_mem | with_reducible exact plain_ints | (refine le_maxLen ?_; omega) | (refine za9 ⟨?_,?_⟩) | (simp only [go_sem,Qc,Qb,zb1,zb2,forall_eq]; done)))
     refine hE2 _ _ exit_ne ?_
     simp (disch:=first | omega | decide +kernel) only [Int.toNat_natCast,D.ints,go_sem,Qa,Qb,Qc,Qd,Qe,↓reduceIte,reduceCtorEq,Qf,Qg,Qh]
     (repeat' (first | ((first | (refine gsel_split (fun q' => ?_) (fun q' => ?_)<;>(have h':=q')<;>(try simp only [za1,za2,Ba,Bb,za3,ne_eq,za4,za5,za6,Ia,Ib,Ic,Ie,Da,Bc,Bh,Be,za7,za8] at h')<;>try (exfalso; omega)) | (have q':=trivial; first | refine hE _ _ ret_ne ?_ | refine hE _ _ exit_ne ?_))<;>(try simp (disch:=first | omega | decide +kernel) only [q',Int.toNat_natCast,D.ints,go_sem,Qa,Qb,Qc,Qd,Qe,↓reduceIte,reduceCtorEq,Qf,Qg,Qh])<;>clear q') | refine hN _ ?_ ?_ Wk.kk | with_reducible refine And.intro ?_ ?_ | with_reducible omega | exact ok_ints | exact cells_ints | exact no_mem | with_reducible exact plain_ints | (refine le_maxLen ?_; omega) | (refine za9 ⟨?_,?_⟩) | (simp only [go_sem,Qc,Qb,zb1,zb2,forall_eq]; done)))
     exact endF [] (retR_cstd rfl rfl (by simp only [go_sem]) (by simp only [go_sem]) (by simp only [go_sem]) rfl rfl (fun _ => rfl) ⟨_,rfl,rfl,by omega,ho2⟩)
end Abs.Y

namespace Abs
open Go Go.Proofs
theorem endFK {P : Program} {N : Nat} {rs u keep sh} {R : AV->List (Nat × AO)->Prop} {st : St} (js : List Nat) (h : retR P rs u keep sh R .ret (frzs js st)) : ∃ st',Wk N st st'∧retR P rs u keep sh R .ret st' :=
 ⟨_,fun _ β φ _ _ _ _ _ hs => ⟨β,φ,hs.frzs⟩,h⟩
end Abs
namespace Abs.Y
open Go Go.Proofs Abs
set_option maxRecDepth 100000

theorem retR_drawC {a j : Nat} {t e : TypeId} {cells : List AV} {ds : List D} {u : Nat->Value} {st : St} {code : List Int} {at_ k : Nat} {Q : AV->Prop} {at' : Nat} {seed' : Int} (h : lk a st.s=some (.p j 0)) (hj : lk j st.o=some (.box e cells)) (hag : aggT Try.prog t=true) (hn : Try.prog.cellsOf t=cells.length) (hd : allD cells=some ds)
 (hu : (Try.prog.underlying t).isSome=true) (ho : lk 0 st.o=some (curB code at' seed')) (hk : lk 1000000000 st.s=some (.hdr 0 (u 0))) (h1 : at_<=at') (h2 : at'<=at_ + k) (h3 : 0<=seed') (h4 : seed' < 18446744073709551616) (hQ : Q (.d (.agg ds))) :
 retR Try.prog [.cell a t] u [0] true (fun r oo => ∃ at' seed',at_<=at'∧at'<=at_ + k∧0<=seed'∧seed' < 18446744073709551616∧oo=curO code at' seed'∧Q r) .ret st:=by
 have hl : (lk a st.s).bind (loadV Try.prog st.o t)=some (0 + Try.prog.cellsOf t<=cells.length∧(Try.prog.underlying t).isSome=true,.d (.agg ds)):=by
  rw [h,Option.bind_some,loadV,hj]
  simp only [hag,if_true,List.drop_zero,hn,List.take_length,hd]
 refine ⟨_,_,⟨at',seed',h1,h2,h3,h4,rfl,hQ⟩,?_⟩
 simp only [retM,resV,hl]
 exact ⟨⟨hu,⟨by omega,hu⟩,trivial⟩,⟨fun j => j,rfl,fun p hp => by obtain rfl:=List.mem_singleton.1 hp; exact ho,by simp,⟨rfl,hk,trivial⟩⟩,.inl trivial⟩
@[reducible] def QF : AV->Prop:=fun r => ∃ x : Int × List (List Int),r=.d (.agg [.int .i64 x.1,.slice (x.2.map D.ints)])∧-1<=x.1∧x.1<=13∧x.2.length<=100∧∀ c ∈ x.2,c.length<=100
set_option maxHeartbeats 4000000 in
theorem hard_ok {code : List Int} (hc : CodeOK code) : Draws 123 [] 200 QF code:=fun at_ seed h1 h2 h3 => by
 have c1:=l2Hard_ok
 have c2:=fun (ss : List ByteArray) h => of_ok hc ss h
 have c3:=fun (s : ByteArray) h => l2Known_ok s h
 have c4:=one_ok hc 4 (by omega)
 have c5:=pick_ok hc 3 (by omega)
 have c7:=fun (v : Int) h => dclause_ok hc v h
 refine CtrR.ofO (n:=56) (rs:=[.cell 2 26]) Try.func123 rfl rfl Try.ntmps123 rfl rfl (by kernel_rfl) Try.checked.mixed ?_; intro u
 refine Ok.endsW ?_
 refine Ok.seq (Ok.go ?_)
 simp (disch:=first | omega | decide +kernel) only [curO,curB,D.bytes,go_sem,Qa,Qb,Qc,Qd,Qe,↓reduceIte,reduceCtorEq,Qf,Qg,Qh]
 refine Ok.seq (Ok.go ?_)
 simp (disch:=first | omega | decide +kernel) only [curO,curB,D.bytes,go_sem,Qa,Qb,Qc,Qd,Qe,↓reduceIte,reduceCtorEq,Qf,Qg,Qh]
 (repeat' (first | ((first | (refine gsel_split (fun q' => ?_) (fun q' => ?_)<;>(have h':=q')<;>(try simp only [za1,za2,Ba,Bb,za3,ne_eq,za4,za5,za6,Ia,Ib,Ic,Ie,Da,Bc,Bh,Be,za7,za8] at h')<;>try (exfalso; omega)) | (have q':=trivial; first | (refine callX_rels (c1) trivial (by simp [dstB]) ?_; rintro _ ⟨xa,rfl,hxa⟩) | (refine callX_rels (c1) trivial (by simp [dstB]) ?_; rintro _ ⟨xa,rfl,hxa⟩) | (refine callX_draw _ (c2 _ ⟨hxa.1,hxa.2.1⟩) ⟨.inl rfl,.inl rfl,trivial⟩ rfl (by simp [dstB]) (by omega) (by omega) (by omega) ?_; rintro _ atb sdb hatb1 hatb2 hsdb1 hsdb2 ⟨xb,rfl,hxb⟩) | (refine callX_rels (c3 _ (hxa.2.2 _ hxb)) ⟨.inl rfl,trivial⟩ (by simp [dstB]) ?_; rintro _ ⟨xc,rfl,hxc⟩) | (refine callX_rels (c3 _ (hxa.2.2 _ hxb)) ⟨.inr ⟨rfl,_,rfl,rfl⟩,trivial⟩ (by simp [dstB]) ?_; rintro _ ⟨xc,rfl,hxc⟩) | refine hE _ _ ret_ne ?_ | refine hE _ _ exit_ne ?_))<;>(try simp (disch:=first | omega | decide +kernel) only [q',curO,curB,D.bytes,go_sem,Qa,Qb,Qc,Qd,Qe,↓reduceIte,reduceCtorEq,Qf,Qg,Qh])<;>clear q') | refine hN _ ?_ ?_ Wk.kk | with_reducible refine And.intro ?_ ?_ | with_reducible omega | exact ok_ints | exact cells_ints | exact no_mem | with_reducible exact plain_ints | (refine le_maxLen ?_; omega) | (refine za9 ⟨?_,?_⟩) | (simp only [go_sem,Qc,Qb,zb1,zb2,forall_eq]; done)))
 obtain ⟨w,cs⟩:=xc
 dsimp only at hxc ⊢
 have hv:=hxc.v
 refine Ok.seq (Ok.go ?_)
 simp (disch:=first | omega | decide +kernel) only [go_sem,Qa,Qb,Qc,Qd,Qe,↓reduceIte,reduceCtorEq,Qf,Qg,Qh]
 (repeat' (first | ((first | (refine gsel_split (fun q' => ?_) (fun q' => ?_)<;>(have h':=q')<;>(try simp only [za1,za2,Ba,Bb,za3,ne_eq,za4,za5,za6,Ia,Ib,Ic,Ie,Da,Bc,Bh,Be,za7,za8] at h')<;>try (exfalso; omega)) | (have q':=trivial; first | refine hE _ _ ret_ne ?_ | refine hE _ _ exit_ne ?_))<;>(try simp (disch:=first | omega | decide +kernel) only [q',go_sem,Qa,Qb,Qc,Qd,Qe,↓reduceIte,reduceCtorEq,Qf,Qg,Qh])<;>clear q') | refine hN _ ?_ ?_ Wk.kk | with_reducible refine And.intro ?_ ?_ | with_reducible omega | exact ok_ints | exact cells_ints | exact no_mem | with_reducible exact plain_ints | (refine le_maxLen ?_; omega) | (refine za9 ⟨?_,?_⟩) | (simp only [go_sem,Qc,Qb,zb1,zb2,forall_eq]; done)))
 refine Ok.seq (Ok.go ?_)
 simp (disch:=first | omega | decide +kernel) only [go_sem,Qa,Qb,Qc,Qd,Qe,↓reduceIte,reduceCtorEq,Qf,Qg,Qh]
 (repeat' (first | ((first | (refine gsel_split (fun q' => ?_) (fun q' => ?_)<;>(have h':=q')<;>(try simp only [za1,za2,Ba,Bb,za3,ne_eq,za4,za5,za6,Ia,Ib,Ic,Ie,Da,Bc,Bh,Be,za7,za8] at h')<;>try (exfalso; omega)) | (have q':=trivial; first | refine hE _ _ ret_ne ?_ | refine hE _ _ exit_ne ?_))<;>(try simp (disch:=first | omega | decide +kernel) only [q',go_sem,Qa,Qb,Qc,Qd,Qe,↓reduceIte,reduceCtorEq,Qf,Qg,Qh])<;>clear q') | refine hN _ ?_ ?_ Wk.kk | with_reducible refine And.intro ?_ ?_ | with_reducible omega | exact ok_ints | exact cells_ints | exact no_mem | with_reducible exact plain_ints | (refine le_maxLen ?_; omega) | (refine za9 ⟨?_,?_⟩) | (simp only [go_sem,Qc,Qb,zb1,zb2,forall_eq]; done)))
 refine Ok.weak (show Wk _ _ ⟨[(1000000000,.hdr 0 (u 0)),(5,.d (.int .i64 1)),(4,.sl 11),(3,.p 3 0),(2,.p 2 0),(0,.p 0 0)],[(11,.arr 3 1 (([] : List Int).map (.int .i64))),(3,.box 26 [.d (.int .i64 w),.d (.slice (cs.map D.ints))]),(2,.box 26 [.d (.int .i64 0),.d (.slice [])]),(0,.box 79 [.d (.slice (code.map (.int .u8))),.d (.int .i64 (atb : Nat)),.d (.int .u64 sdb)])]⟩ from (Wk.kk)) ?_
 refine Ok.loopN [55,54,53,52,51,50,49,48,47,46,45,44,43,42,41,40,39,38,37,36,35,34,33,32,31,30,29,28,27,26,25,24,23,22,21,20,19,18,17,16,15,14,13,12,11,10,9,8,7,6,5,4,1] (fun i (a : List Int × (Nat × Int)) => [(5,.d (.int .i64 ((i + 1 : Nat) : Int))),(4,.sl 11)])
  (fun _ (a : List Int × (Nat × Int)) => [(11,.arr 3 1 (a.1.map (.int .i64))),(0,.box 79 [.d (.slice (code.map (.int .u8))),.d (.int .i64 (a.2.1 : Nat)),.d (.int .u64 a.2.2)])]) w.toNat
  (fun i a => a.1.length=i∧(∀ k,k < i->(a.1.getD k 0).natAbs=k + 1)∧atb<=a.2.1∧a.2.1<=atb + 2 * i∧0<=a.2.2∧a.2.2 < 18446744073709551616) ([],(atb,sdb)) ⟨rfl,fun k hk => absurd hk (by omega),Nat.le_refl _,Nat.le_refl _,hsdb1,hsdb2⟩ (Wk.kk) ?_
 rintro R i ⟨to,a,s⟩ hN hE1 hi ⟨ht1,ht2,ha1,ha2,hs1,hs2⟩
 dsimp only at ht1 ht2 ha1 ha2 hs1 hs2 ⊢
 have hma : ∀ (l : List Int) (y : Int),(l.map (D.int .i64))++[.int .i64 y]=(l++[y]).map (D.int .i64):=fun l y => by simp
 have hgt : ∀ y : Int,y.natAbs=i + 1->∀ k,k < i + 1->((to++[y]).getD k 0).natAbs=k + 1:=fun y hy k hk => by
  by_cases h : k < i
  . rw [List.getD_eq_getElem?_getD,List.getElem?_append_left (by omega),← List.getD_eq_getElem?_getD]; exact ht2 k h
  . obtain rfl : k=i:=by omega
    rw [List.getD_eq_getElem?_getD,List.getElem?_append_right (by omega),show k - to.length=0 by omega]; simpa using hy
 by_cases h0 : (i : Int) < w
 . clear hE1 c1 c2 c3 c5
   simp (disch:=first | omega | decide +kernel) only [go_sem,Qa,Qb,Qc,Qd,Qe,↓reduceIte,reduceCtorEq,Qf,Qg,Qh]
   (repeat' (first | ((first | (refine gsel_split (fun q' => ?_) (fun q' => ?_)<;>(have h':=q')<;>(try simp only [za1,za2,Ba,Bb,za3,ne_eq,za4,za5,za6,Ia,Ib,Ic,Ie,Da,Bc,Bh,Be,za7,za8] at h')<;>try (exfalso; omega)) | (have q':=trivial; first | (refine callX_draw _ (c4) ⟨.inl rfl,.inl rfl,trivial⟩ rfl (by simp [dstB]) (by omega) (by omega) (by omega) ?_; rintro _ atd sdd hatd1 hatd2 hsdd1 hsdd2 ⟨xd,rfl,hxd⟩) | refine hE _ _ ret_ne ?_ | refine hE _ _ exit_ne ?_))<;>(try simp (disch:=first | omega | decide +kernel) only [q',curO,curB,D.bytes,hma,go_sem,Qa,Qb,Qc,Qd,Qe,↓reduceIte,reduceCtorEq,Qf,Qg,Qh])<;>clear q') | refine hN _ ?_ ?_ Wk.kk | with_reducible refine And.intro ?_ ?_ | with_reducible omega | exact ok_ints | exact cells_ints | exact no_mem | with_reducible exact plain_ints | (refine le_maxLen ?_; omega) | (refine za9 ⟨?_,?_⟩) | (simp only [go_sem,Qc,Qb,zb1,zb2,forall_eq]; done)))
   . refine hN (to++[0 - ((i + 1 : Nat) : Int)],(atd,sdd)) _ (by omega) ⟨by simp [ht1],hgt _ (by omega),by dsimp only; omega,by dsimp only; omega,hsdd1,hsdd2⟩ (Wk.kk)
   . refine hN (to++[((i + 1 : Nat) : Int)],(atd,sdd)) _ (by omega) ⟨by simp [ht1],hgt _ (by omega),by dsimp only; omega,by dsimp only; omega,hsdd1,hsdd2⟩ (Wk.kk)
 . clear hN c1 c2 c3 hma hgt
   simp (disch:=first | omega | decide +kernel) only [go_sem,Qa,Qb,Qc,Qd,Qe,↓reduceIte,reduceCtorEq,Qf,Qg,Qh]
   (repeat' (first | ((first | (refine gsel_split (fun q' => ?_) (fun q' => ?_)<;>(have h':=q')<;>(try simp only [za1,za2,Ba,Bb,za3,ne_eq,za4,za5,za6,Ia,Ib,Ic,Ie,Da,Bc,Bh,Be,za7,za8] at h')<;>try (exfalso; omega)) | (have q':=trivial; first | refine hE _ _ ret_ne ?_ | refine hE _ _ exit_ne ?_))<;>(try simp (disch:=first | omega | decide +kernel) only [q',curO,curB,D.bytes,go_sem,Qa,Qb,Qc,Qd,Qe,↓reduceIte,reduceCtorEq,Qf,Qg,Qh])<;>clear q') | refine hN _ ?_ ?_ Wk.kk | with_reducible refine And.intro ?_ ?_ | with_reducible omega | exact ok_ints | exact cells_ints | exact no_mem | with_reducible exact plain_ints | (refine le_maxLen ?_; omega) | (refine za9 ⟨?_,?_⟩) | (simp only [go_sem,Qc,Qb,zb1,zb2,forall_eq]; done)))
   refine hE1 _ _ exit_ne ?_
   simp (disch:=first | omega | decide +kernel) only [go_sem,Qa,Qb,Qc,Qd,Qe,↓reduceIte,reduceCtorEq,Qf,Qg,Qh]
   have htk : ToOK w to:=⟨hv,by omega,fun k hk => ht2 k (by omega)⟩
   have c6:=renameCnf_ok w cs to hxc htk
   clear ht2 hE1
   refine Ok.weak (Wk.frz (j:=11) rfl) ?_
   simp (disch:=first | omega | decide +kernel) only [St.frz,frzS,frzO,AV.frz,AV.frzL,AO.frz,go_sem,Qa,Qb,Qc,Qd,Qe,↓reduceIte,reduceCtorEq,Qf,Qg,Qh]
   refine Ok.seq (Ok.go ?_)
   simp (disch:=first | omega | decide +kernel) only [go_sem,Qa,Qb,Qc,Qd,Qe,↓reduceIte,reduceCtorEq,Qf,Qg,Qh]
   refine callX_rel [] [3300000,3300001] [3300001] c6 ⟨.inl rfl,.inl rfl,trivial⟩ trivial (by simp [namesI,keysO]) (by simp [dstB]) ?_
   rintro _ _ ⟨ds,rfl,rfl,hd1,hd2⟩
   refine ⟨by simp [namesOK,keysO,nth],?_⟩
   simp (disch:=first | omega | decide +kernel) only [go_sem,Qa,Qb,Qc,Qd,Qe,↓reduceIte,reduceCtorEq,Qf,Qg,Qh]
   (repeat' (first | ((first | (refine gsel_split (fun q' => ?_) (fun q' => ?_)<;>(have h':=q')<;>(try simp only [za1,za2,Ba,Bb,za3,ne_eq,za4,za5,za6,Ia,Ib,Ic,Ie,Da,Bc,Bh,Be,za7,za8] at h')<;>try (exfalso; omega)) | (have q':=trivial; first | refine hE _ _ ret_ne ?_ | refine hE _ _ exit_ne ?_))<;>(try simp (disch:=first | omega | decide +kernel) only [q',go_sem,Qa,Qb,Qc,Qd,Qe,↓reduceIte,reduceCtorEq,Qf,Qg,Qh])<;>clear q') | refine hN _ ?_ ?_ Wk.kk | with_reducible refine And.intro ?_ ?_ | with_reducible omega | exact ok_ints | exact cells_ints | exact no_mem | with_reducible exact plain_ints | (refine le_maxLen ?_; omega) | (refine za9 ⟨?_,?_⟩) | (simp only [go_sem,Qc,Qb,zb1,zb2,forall_eq]; done)))
   clear c6 c4
   refine Ok.seq (Ok.go ?_)
   simp (disch:=first | omega | decide +kernel) only [go_sem,Qa,Qb,Qc,Qd,Qe,↓reduceIte,reduceCtorEq,Qf,Qg,Qh]
   (repeat' (first | ((first | (refine gsel_split (fun q' => ?_) (fun q' => ?_)<;>(have h':=q')<;>(try simp only [za1,za2,Ba,Bb,za3,ne_eq,za4,za5,za6,Ia,Ib,Ic,Ie,Da,Bc,Bh,Be,za7,za8] at h')<;>try (exfalso; omega)) | (have q':=trivial; first | (refine callX_draw _ (c5) ⟨.inl rfl,.inl rfl,trivial⟩ rfl (by simp [dstB]) (by omega) (by omega) (by omega) ?_; rintro _ atd sdd hatd1 hatd2 hsdd1 hsdd2 ⟨xd,rfl,hxd⟩) | refine hE _ _ ret_ne ?_ | refine hE _ _ exit_ne ?_))<;>(try simp (disch:=first | omega | decide +kernel) only [q',curO,curB,D.bytes,go_sem,Qa,Qb,Qc,Qd,Qe,↓reduceIte,reduceCtorEq,Qf,Qg,Qh])<;>clear q') | refine hN _ ?_ ?_ Wk.kk | with_reducible refine And.intro ?_ ?_ | with_reducible omega | exact ok_ints | exact cells_ints | exact no_mem | with_reducible exact plain_ints | (refine le_maxLen ?_; omega) | (refine za9 ⟨?_,?_⟩) | (simp only [go_sem,Qc,Qb,zb1,zb2,forall_eq]; done)))
   refine Ok.weak (show Wk _ _ ⟨[(1000000000,.hdr 0 (u 0)),(6,.d (.int .i64 xd)),(3,.p 3 0),(2,.p 2 0),(0,.p 0 0)],[(3300001,.arr 27 1 (ds.map D.ints)),(3,.box 26 [.d (.int .i64 w),.sl 3300001]),(2,.box 26 [.d (.int .i64 0),.d (.slice [])]),(0,.box 79 [.d (.slice (code.map (.int .u8))),.d (.int .i64 (atd : Nat)),.d (.int .u64 sdd)])]⟩ from (Wk.kk)) ?_
   refine Ok.loopNO [55,54,53,52,51,50,49,48,47,46,45,44,43,42,41,40,39,38,37,36,35,34,33,32,31,30,29,28,27,26,25,24,23,22,21,20,19,18,17,16,15,14,13,12,11,10,9,8,7,6,5,4,1] (fun i (a : (List (List Int) × Int) × (Nat × Int)) => [(6,.d (.int .i64 a.1.2))])
    (fun _ (a : (List (List Int) × Int) × (Nat × Int)) => [(3300001,.arr 27 1 (a.1.1.map D.ints)),(0,.box 79 [.d (.slice (code.map (.int .u8))),.d (.int .i64 (a.2.1 : Nat)),.d (.int .u64 a.2.2)])]) xd.toNat
    (fun i a => a.1.2=xd - i∧a.1.1.length<=60 + i∧(∀ c ∈ a.1.1,c.length<=100)∧atd<=a.2.1∧a.2.1<=atd + 24 * i∧0<=a.2.2∧a.2.2 < 18446744073709551616) ((ds,xd),(atd,sdd)) ⟨by show xd=xd - ((0 : Nat) : Int); omega,by dsimp only; omega,fun c hc => by have:=(hd2 c hc).1; omega,Nat.le_refl _,Nat.le_refl _,hsdd1,hsdd2⟩ (Wk.kk) ?_
   rintro R i ⟨⟨o,n⟩,a,s⟩ hN hE1 hi ⟨hn,ho1,ho2,ha1,ha2,hs1,hs2⟩
   dsimp only at hn ho1 ho2 ha1 ha2 hs1 hs2 ⊢
   by_cases h0 : 0 < n∧0 < w
   . clear hE1 c5
     refine Ok.seq (Ok.go ?_)
     simp (disch:=first | omega | decide +kernel) only [go_sem,Qa,Qb,Qc,Qd,Qe,↓reduceIte,reduceCtorEq,Qf,Qg,Qh]
     (repeat' (first | ((first | (refine gsel_split (fun q' => ?_) (fun q' => ?_)<;>(have h':=q')<;>(try simp only [za1,za2,Ba,Bb,za3,ne_eq,za4,za5,za6,Ia,Ib,Ic,Ie,Da,Bc,Bh,Be,za7,za8] at h')<;>try (exfalso; omega)) | (have q':=trivial; first | refine hE _ _ ret_ne ?_ | refine hE _ _ exit_ne ?_))<;>(try simp (disch:=first | omega | decide +kernel) only [q',go_sem,Qa,Qb,Qc,Qd,Qe,↓reduceIte,reduceCtorEq,Qf,Qg,Qh])<;>clear q') | refine hN _ ?_ ?_ Wk.kk | with_reducible refine And.intro ?_ ?_ | with_reducible omega | exact ok_ints | exact cells_ints | exact no_mem | with_reducible exact plain_ints | (refine le_maxLen ?_; omega) | (refine za9 ⟨?_,?_⟩) | (simp only [go_sem,Qc,Qb,zb1,zb2,forall_eq]; done)))
     refine Ok.seq (Ok.block (Ok.reg7 [true,true,true,true,true,false,false,false,true,false] (by decide +kernel) ?_))
     simp (disch:=first | omega | decide +kernel) only [go_sem,Qa,Qb,Qc,Qd,Qe,↓reduceIte,reduceCtorEq,Qf,Qg,Qh]
     (repeat' (first | ((first | (refine gsel_split (fun q' => ?_) (fun q' => ?_)<;>(have h':=q')<;>(try simp only [za1,za2,Ba,Bb,za3,ne_eq,za4,za5,za6,Ia,Ib,Ic,Ie,Da,Bc,Bh,Be,za7,za8] at h')<;>try (exfalso; omega)) | (have q':=trivial; first | (refine callX_drawR _ (c7 _ (by omega)) ⟨.inl rfl,.inl rfl,trivial⟩ rfl (by decide) (by omega) (by omega) (by omega) (by omega) ?_; rintro ate sde _ hate1 hate2 hsde1 hsde2 ⟨xe,rfl,hxe⟩) | refine hE _ _ ret_ne ?_ | refine hE _ _ exit_ne ?_))<;>(try simp (disch:=first | omega | decide +kernel) only [q',curO,curB,D.bytes,go_sem,Qa,Qb,Qc,Qd,Qe,↓reduceIte,reduceCtorEq,Qf,Qg,Qh])<;>clear q') | refine hN _ ?_ ?_ Wk.kk | with_reducible refine And.intro ?_ ?_ | with_reducible omega | exact ok_ints | exact cells_ints | exact no_mem | with_reducible exact plain_ints | (refine le_maxLen ?_; omega) | (refine za9 ⟨?_,?_⟩) | (simp only [go_sem,Qc,Qb,zb1,zb2,forall_eq]; done)))
     refine Ok.go ?_
     simp (disch:=first | omega | decide +kernel) only [go_sem,Qa,Qb,Qc,Qd,Qe,↓reduceIte,reduceCtorEq,Qf,Qg,Qh]
     (repeat' (first | ((first | (refine gsel_split (fun q' => ?_) (fun q' => ?_)<;>(have h':=q')<;>(try simp only [za1,za2,Ba,Bb,za3,ne_eq,za4,za5,za6,Ia,Ib,Ic,Ie,Da,Bc,Bh,Be,za7,za8] at h')<;>try (exfalso; omega)) | (have q':=trivial; first | refine hE _ _ ret_ne ?_ | refine hE _ _ exit_ne ?_))<;>(try simp (disch:=first | omega | decide +kernel) only [q',go_sem,Qa,Qb,Qc,Qd,Qe,↓reduceIte,reduceCtorEq,Qf,Qg,Qh])<;>clear q') | refine hN _ ?_ ?_ Wk.kk | with_reducible refine And.intro ?_ ?_ | with_reducible omega | exact ok_ints | exact cells_ints | exact no_mem | with_reducible exact plain_ints | (refine le_maxLen ?_; omega) | (refine za9 ⟨?_,?_⟩) | (simp only [go_sem,Qc,Qb,zb1,zb2,forall_eq]; done)))
     refine hN ((o++[xe],n - 1),(ate,sde)) _ (by omega) ⟨by dsimp only; omega,by simp; omega,fun c hc => ?_,by dsimp only; omega,by dsimp only; omega,hsde1,hsde2⟩ (by refine Wk.auto ?_ ?_<;>simp [extraK,lk,killL,St.kill,wipeO,wipeS,AV.has,AV.hasL,AO.wipe,List.map_set,updSt,insL,dropS,ins,List.map_append,List.map_cons,List.map_nil,D.ints])
     rcases List.mem_append.1 hc with hc | hc
     . exact ho2 c hc
     . rw [List.mem_singleton] at hc; subst hc; have:=hxe.1; omega
   . clear hN
     refine Ok.go ?_
     simp (disch:=first | omega | decide +kernel) only [go_sem,Qa,Qb,Qc,Qd,Qe,↓reduceIte,reduceCtorEq,Qf,Qg,Qh]
     (repeat' (first | ((first | (refine gsel_split (fun q' => ?_) (fun q' => ?_)<;>(have h':=q')<;>(try simp only [za1,za2,Ba,Bb,za3,ne_eq,za4,za5,za6,Ia,Ib,Ic,Ie,Da,Bc,Bh,Be,za7,za8] at h')<;>try (exfalso; omega)) | (have q':=trivial; first | refine hE _ _ ret_ne ?_ | refine hE _ _ exit_ne ?_))<;>(try simp (disch:=first | omega | decide +kernel) only [q',go_sem,Qa,Qb,Qc,Qd,Qe,↓reduceIte,reduceCtorEq,Qf,Qg,Qh])<;>clear q') | refine hN _ ?_ ?_ Wk.kk | with_reducible refine And.intro ?_ ?_ | with_reducible omega | exact ok_ints | exact cells_ints | exact no_mem | with_reducible exact plain_ints | (refine le_maxLen ?_; omega) | (refine za9 ⟨?_,?_⟩) | (simp only [go_sem,Qc,Qb,zb1,zb2,forall_eq]; done)))
     all_goals (
      refine hE1 _ _ exit_ne ?_
      simp (disch:=first | omega | decide +kernel) only [go_sem,Qa,Qb,Qc,Qd,Qe,↓reduceIte,reduceCtorEq,Qf,Qg,Qh]
      refine Ok.go ?_
      simp (disch:=first | omega | decide +kernel) only [go_sem,Qa,Qb,Qc,Qd,Qe,↓reduceIte,reduceCtorEq,Qf,Qg,Qh]
      (repeat' (first | ((first | (refine gsel_split (fun q' => ?_) (fun q' => ?_)<;>(have h':=q')<;>(try simp only [za1,za2,Ba,Bb,za3,ne_eq,za4,za5,za6,Ia,Ib,Ic,Ie,Da,Bc,Bh,Be,za7,za8] at h')<;>try (exfalso; omega)) | (have q':=trivial; first | refine hE _ _ ret_ne ?_ | refine hE _ _ exit_ne ?_))<;>(try simp (disch:=first | omega | decide +kernel) only [q',go_sem,Qa,Qb,Qc,Qd,Qe,↓reduceIte,reduceCtorEq,Qf,Qg,Qh])<;>clear q') | refine hN _ ?_ ?_ Wk.kk | with_reducible refine And.intro ?_ ?_ | with_reducible omega | exact ok_ints | exact cells_ints | exact no_mem | with_reducible exact plain_ints | (refine le_maxLen ?_; omega) | (refine za9 ⟨?_,?_⟩) | (simp only [go_sem,Qc,Qb,zb1,zb2,forall_eq]; done)))
      refine endFK [3300001] ?_
      refine retR_drawC (code:=code) (at_:=at_) (k:=200) (Q:=QF) rfl rfl (by simp only [go_sem]) (by simp only [go_sem,List.length_cons,List.length_nil]) rfl (by simp only [go_sem]) rfl rfl (by omega) (by omega) hs1 hs2 ?_
      exact ⟨(w,o),rfl,by dsimp only; omega,by dsimp only; omega,by dsimp only; omega,ho2⟩)
end Abs.Y
