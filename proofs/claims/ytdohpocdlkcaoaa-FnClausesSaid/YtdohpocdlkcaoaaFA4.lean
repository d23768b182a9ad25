/- What functions of this program compute, over plain data. No condition. -/
import Derived.Test.YtdohpocdlkcaoaaR5
import Derived.Test.YtdohpocdlkcaoaaL3
import Derived.Test.YtdohpocdlkcaoaaAbsLoopO
set_option linter.all false
namespace Abs.Y
open Go Go.Proofs Abs
open Nat renaming reduceEqDiff -> Qa, reduceLT -> Qb, reduceAdd -> Qc, reduceMul -> Qd, reduceSub -> Qe, reduceLeDiff -> Qf, reduceSubDiff -> Qg, reduceBEq -> Qh
open Bool renaming not_eq_true' -> Ba, not_eq_false' -> Bb, and_eq_true -> Bc, or_eq_true -> Bd, or_eq_false_iff -> Be
open Int renaming ofNat_lt -> Ia, ofNat_le -> Ib, not_lt -> Ic, not_le -> Ie
open Decidable renaming not_not -> Da
set_option maxRecDepth 100000
set_option maxHeartbeats 1000000

def Sn (n : Nat) (l : List Int) : Prop:=l.length<=n∧∀ x ∈ l,-9223372036854775808<=x∧x<=1000001
theorem SmN.sn {n m : Nat} {l : List Int} (h : SmN n l) (hm : n<=m) : Sn m l:=⟨Nat.le_trans h.1 hm,fun x hx => by have:=h.2 x hx; omega⟩
theorem Sn.set {n : Nat} {l : List Int} (h : Sn n l) {i : Nat} {y : Int} (hy : -9223372036854775808<=y∧y<=1000001) : Sn n (l.set i y):=by
 refine ⟨by simpa using h.1,fun x hx => ?_⟩
 rcases List.mem_or_eq_of_mem_set hx with hx | rfl
 . exact h.2 x hx
 . exact hy
theorem Sn.getD {n : Nat} {l : List Int} (h : Sn n l) {i : Nat} (hi : i < l.length) : -9223372036854775808<=l.getD i 0∧l.getD i 0<=1000001:=by
 refine h.2 _ ?_
 simp [List.getD_eq_getElem?_getD,hi]
theorem Sn.app {n : Nat} {l : List Int} (h : Sn n l) {y : Int} (hy : -9223372036854775808<=y∧y<=1000001) : Sn (n + 1) (l++[y]):=by
 refine ⟨by have:=h.1; simp; omega,fun x hx => ?_⟩
 rw [List.mem_append,List.mem_singleton] at hx
 rcases hx with hx | rfl
 . exact h.2 x hx
 . exact hy
theorem anyClause_ok {code : List Int} (hc : CodeOK code) (vars : Int) (hv : -1000000<=vars∧vars<=1000000) :
 DrawsR 86 [.d (.int .i64 vars)] 40 (QL (Sn 5)) code:=fun at_ seed h1 h2 h3 => by
 have c1 : DrawsR 177 [.d (.int .i64 vars)] 24 (QL fun l => l.length<=4∧SmN 4 l) code:=fun a b x y z => (dclause_ok hc vars hv a b x y z).mono fun _ _ ⟨at',s,o,e1,e2,e3,e4,e5,e6,x,e7,e8⟩ => ⟨at',s,o,e1,e2,e3,e4,e5,e6,x,e7,e8.1,e8⟩
 have c2:=pick_ok hc 32 (by omega)
 have c3:=lit_ok hc vars hv
 have c4:=amongB_ok hc [0,vars + 1,0 - vars - 1,-9223372036854775808] (-9223372036854775808) 1000001 (by simp) (by simp; omega)
 simp only [List.map_cons,List.map_nil] at c4
 have hei : ∀ (l : List Int) (i : Nat),i < l.length->el (l.map (D.int .i64)) i=.int .i64 (l.getD i 0):=fun l i h => el_ints h
 refine CtrR.of (n:=52) (rs:=[.tmp 4]) Try.func86 rfl rfl Try.ntmps86 rfl rfl (by kernel_rfl) Try.checked.mixed ?_; intro u
 have hei2 : ∀ (l : List Int) (i : Nat) (y : Int) (j : Nat),j < l.length->el ((l.set i y).map (D.int .i64)) j=.int .i64 ((l.set i y).getD j 0):=fun l i y j h => el_ints (by simpa using h)
 have t1 : Int.toNat 1=1:=rfl
 have hms : ∀ (l : List Int) (i : Nat) (y : Int),(l.map (D.int .i64)).set i (.int .i64 y)=(l.set i y).map (D.int .i64):=fun l i y => by rw [List.map_set]
 have hma : ∀ (l : List Int) (y : Int),(l.map (D.int .i64))++[.int .i64 y]=(l++[y]).map (D.int .i64):=fun l y => by simp
 simp (disch:=first | omega | decide +kernel) only [curO,curB,D.bytes,go_sem,Qa,Qb,Qc,Qd,Qe,↓reduceIte,reduceCtorEq,Qf,Qg,Qh]
 (repeat' (first | ((first | (refine gsel_split (fun q' => ?_) (fun q' => ?_)<;>(have h':=q')<;>(try simp only [za1,za2,Ba,Bb,za3,ne_eq,za4,za5,za6,Ia,Ib,Ic,Ie,Da,Bc,Bd,Be,za7,za8] at h')<;>try (exfalso; omega)) | (have q':=trivial; first | (refine callX_drawR _ (c1) ⟨.inl rfl,.inl rfl,trivial⟩ rfl (by decide) (by omega) (by omega) (by omega) (by omega) ?_; rintro ata sda _ hata1 hata2 hsda1 hsda2 ⟨xa,rfl,hxa⟩) | (refine callX_draw _ (c2) ⟨.inl rfl,.inl rfl,trivial⟩ rfl (by simp [dstB]) (by omega) (by omega) (by omega) ?_; rintro _ atb sdb hatb1 hatb2 hsdb1 hsdb2 ⟨xb,rfl,hxb⟩) | (refine callX_draw _ (c3) ⟨.inl rfl,.inl rfl,trivial⟩ rfl (by simp [dstB]) (by omega) (by omega) (by omega) ?_; rintro _ atc sdc hatc1 hatc2 hsdc1 hsdc2 ⟨xc,rfl,hxc⟩) | (refine callX_drawL _ _ (c4) ⟨.inl rfl,.inl rfl,trivial⟩ rfl rfl (by decide) (by simp [dstB]) (by omega) (by omega) (by omega) ?_; rintro _ at1 sd1 hat1 hat2 hsd1 hsd2 ⟨x1,rfl,hx1⟩) | refine hE _ _ ret_ne ?_ | refine hE _ _ exit_ne ?_))<;>(try simp (disch:=first | omega | decide +kernel) only [q',curO,curB,D.bytes,hei,hei2,t1,hms,hma,List.length_set,List.length_map,go_sem,Qa,Qb,Qc,Qd,Qe,↓reduceIte,reduceCtorEq,Qf,Qg,Qh])<;>clear q') | refine hN _ ?_ ?_ Wk.kk | with_reducible refine And.intro ?_ ?_ | with_reducible omega | exact ok_ints | exact cells_ints | exact no_mem | with_reducible exact plain_ints | (refine le_maxLen ?_; omega) | (refine za9 ⟨?_,?_⟩) | (simp only [go_sem,Qc,Qb,zb1,zb2,forall_eq]; done)))
 all_goals (first | omega | (simp only [List.length_set]; omega) | refine retR_drawR rfl rfl rfl rfl (by decide) (by omega) (by omega) (by omega) (by omega) ?_)
 all_goals have hs:=hxa.2
 all_goals (first | exact hs.sn (by omega) | exact (hs.sn (Nat.le_refl _)).app (by omega) | exact (hs.sn (by omega)).set (by omega) | exact ((hs.sn (by omega)).set ((hs.sn (Nat.le_refl _)).getD (by omega))).set ((hs.sn (Nat.le_refl _)).getD (by omega)))
end Abs.Y

namespace Abs
open Go Go.RowKit
theorem retM_vss {P : Program} {t1 t2 t3 : Nat} {st : St} {u : Nat->Value} {x : D} {i j : Nat} {o1 o2 : AO} (h1 : lk t1 st.s=some (.d x)) (h2 : lk t2 st.s=some (.sl i)) (h3 : lk t3 st.s=some (.sl j)) (k1 : lk i st.o=some o1) (k2 : lk j st.o=some o2) (hne : (i == j)=false)
 (r1 : ∀ f,o1.ren f=o1) (r2 : ∀ f,o2.ren f=o2) : retM P [.tmp t1,.tmp t2,.tmp t3] u [] true (.tup [.d x,.sl 1,.sl 2]) [(1,o1),(2,o2)] .ret st:=by
 have hne : ¬ i=j:=by simpa using hne
 simp only [retM,resV,h1,h2,h3]
 refine ⟨trivial,⟨fun q => if q=1 then i else j,rfl,?_,?_,trivial⟩,.inl trivial⟩
 . intro p hp
   simp only [List.mem_cons,List.not_mem_nil,or_false] at hp
   rcases hp with rfl | rfl
   . simpa [r1] using k1
   . simpa [r2] using k2
 . intro p hp q hq e
   simp only [List.mem_cons,List.not_mem_nil,or_false] at hp hq
   rcases hp with rfl | rfl<;>rcases hq with rfl | rfl<;>simp_all
theorem retM_vssv {P : Program} {t1 t2 t3 t4 : Nat} {st : St} {u : Nat->Value} {x y : D} {i j : Nat} {o1 o2 : AO} (h1 : lk t1 st.s=some (.d x)) (h2 : lk t2 st.s=some (.sl i)) (h3 : lk t3 st.s=some (.sl j)) (h4 : lk t4 st.s=some (.d y)) (k1 : lk i st.o=some o1) (k2 : lk j st.o=some o2) (hne : (i == j)=false)
 (r1 : ∀ f,o1.ren f=o1) (r2 : ∀ f,o2.ren f=o2) : retM P [.tmp t1,.tmp t2,.tmp t3,.tmp t4] u [] true (.tup [.d x,.sl 1,.sl 2,.d y]) [(1,o1),(2,o2)] .ret st:=by
 have hne : ¬ i=j:=by simpa using hne
 simp only [retM,resV,h1,h2,h3,h4]
 refine ⟨trivial,⟨fun q => if q=1 then i else j,rfl,?_,?_,trivial⟩,.inl trivial⟩
 . intro p hp
   simp only [List.mem_cons,List.not_mem_nil,or_false] at hp
   rcases hp with rfl | rfl
   . simpa [r1] using k1
   . simpa [r2] using k2
 . intro p hp q hq e
   simp only [List.mem_cons,List.not_mem_nil,or_false] at hp hq
   rcases hp with rfl | rfl<;>rcases hq with rfl | rfl<;>simp_all
theorem retM_vs {P : Program} {t1 t2 : Nat} {st : St} {u : Nat->Value} {x : D} {i : Nat} {o1 : AO} (h1 : lk t1 st.s=some (.d x)) (h2 : lk t2 st.s=some (.sl i)) (k1 : lk i st.o=some o1)
 (r1 : ∀ f,o1.ren f=o1) : retM P [.tmp t1,.tmp t2] u [] true (.tup [.d x,.sl 1]) [(1,o1)] .ret st:=by
 simp only [retM,resV,h1,h2]
 refine ⟨trivial,⟨fun _ => i,rfl,?_,?_,trivial⟩,.inl trivial⟩
 . intro p hp
   obtain rfl:=List.mem_singleton.1 hp
   simpa [r1] using k1
 . intro p hp q hq _
   obtain rfl:=List.mem_singleton.1 hp
   obtain rfl:=List.mem_singleton.1 hq
   rfl
theorem Ok.seqJ {P : Program} {N : Nat} {x y : Code} {Q : Exit->St->Prop} {st : St} (Sc : St) (h1 : Ok P N y Q Sc) (h2 : Ok P N x (fun e s => (e=.normal∧Wk N s Sc)∨(e ≠ .normal∧Q e s)) st) : Ok P N (.seq x y) Q st :=
 Ok.seq (h2.mono fun e s h => by
  cases e with
  | normal =>
    rcases h with ⟨_,h⟩ | ⟨h,_⟩
    . exact Ok.weak h h1
    . exact absurd rfl h
  | _ =>
    rcases h with ⟨h,_⟩ | ⟨_,h⟩
    . cases h
    . exact h)
end Abs
namespace Abs.Y
open Go Go.Proofs Abs
open Nat renaming reduceEqDiff -> Qa, reduceLT -> Qb, reduceAdd -> Qc, reduceMul -> Qd, reduceSub -> Qe, reduceLeDiff -> Qf, reduceSubDiff -> Qg, reduceBEq -> Qh
open Bool renaming not_eq_true' -> Ba, not_eq_false' -> Bb, and_eq_true -> Bc, or_eq_true -> Bd, or_eq_false_iff -> Be
open Int renaming ofNat_lt -> Ia, ofNat_le -> Ib, not_lt -> Ic, not_le -> Ie
open Decidable renaming not_not -> Da
set_option maxRecDepth 100000
set_option maxHeartbeats 1000000

@[reducible] def rowI (x : List Int) : AO:=.arr 3 1 (x.map (.int .i64))
theorem vars2_ok {code : List Int} (hc : CodeOK code) : Draws 85 [] 4 (QI fun x => -1<=x∧x<=13) code:=fun at_ seed h1 h2 h3 => by
 have c1:=pick_ok hc 24 (by omega)
 have e1 : ∀ x : Int,0<=x->x.tdiv 6=x / 6:=fun x hx => Int.tdiv_eq_ediv_of_nonneg hx
 have c2 : ∀ k : Nat,1<=k->k<=11->Draws 87 [.d (.slice (List.take k (([3,3,4,4,5,2,12,1,0,13,-1] : List Int).map (D.int .i64))))] 2 (QI fun x => -1<=x∧x<=13) code:=fun k h1 h2 => by
  rw [← List.map_take]
  exact amongD_ok hc _ (-1) 13 (by simp only [List.length_take,List.length_cons,List.length_nil]; omega) fun x hx => by have:=List.mem_of_mem_take hx; simp at this; omega
 simp only [List.map_cons,List.map_nil] at c2
 refine CtrR.of (n:=11) (rs:=[.tmp 2]) Try.func85 rfl rfl Try.ntmps85 rfl rfl (by kernel_rfl) Try.checked.mixed ?_; intro u
 simp (disch:=first | omega | decide +kernel) only [curO,curB,D.bytes,go_sem,Qa,Qb,Qc,Qd,Qe,↓reduceIte,reduceCtorEq,Qf,Qg,Qh]
 (repeat' (first | ((first | (refine gsel_split (fun q' => ?_) (fun q' => ?_)<;>(have h':=q')<;>(try simp only [za1,za2,Ba,Bb,za3,ne_eq,za4,za5,za6,Ia,Ib,Ic,Ie,Da,Bc,Bd,Be,za7,za8] at h')<;>try (exfalso; omega)) | (have q':=trivial; first | (refine callX_draw _ (c1) ⟨.inl rfl,.inl rfl,trivial⟩ rfl (by simp [dstB]) (by omega) (by omega) (by omega) ?_; rintro _ at1 sd1 hat11 hat12 hsd11 hsd12 ⟨x1,rfl,hx1⟩) | (refine callX_draw _ (c2 _ (by omega) (by omega)) ⟨.inl rfl,.inl rfl,trivial⟩ rfl (by simp [dstB]) (by omega) (by omega) (by omega) ?_; rintro _ atb sdb hatb1 hatb2 hsdb1 hsdb2 ⟨xb,rfl,hxb⟩) | refine hE _ _ ret_ne ?_ | refine hE _ _ exit_ne ?_))<;>(try simp (disch:=first | omega | decide +kernel) only [q',curO,curB,D.bytes,e1,Option.isSome_none,Bool.false_eq_true,if_false,go_sem,Qa,Qb,Qc,Qd,Qe,↓reduceIte,reduceCtorEq,Qf,Qg,Qh])<;>clear q') | refine hN _ ?_ ?_ Wk.kk | with_reducible refine And.intro ?_ ?_ | with_reducible omega | exact ok_ints | exact cells_ints | exact no_mem | with_reducible exact plain_ints | (refine le_maxLen ?_; omega) | (refine za9 ⟨?_,?_⟩) | (simp only [go_sem,Qc,Qb,zb1,zb2,forall_eq]; done)))
 all_goals (first | omega | (exact retR_draw rfl rfl rfl (by omega) (by omega) (by omega) (by omega) ⟨_,rfl,by omega,by omega⟩))
@[reducible] def Q3 : AV->List (Nat × AO)->Prop:=fun r oo => ∃ (v : Int) (a b : List Int),r=.tup [.d (.int .i64 v),.sl 1,.sl 2]∧oo=[(1,rowI a),(2,rowI b)]∧-1<=v∧v<=13∧a.length<=1000∧b.length<=1000
theorem anyClauseL_ok {code : List Int} (hc : CodeOK code) (vars : Int) (hv : -1000000<=vars∧vars<=1000000) : DrawsR 86 [.d (.int .i64 vars)] 40 (QL fun l => l.length<=5) code :=
 fun a b x y z => (anyClause_ok hc vars hv a b x y z).mono fun _ _ ⟨at',s,o,e1,e2,e3,e4,e5,e6,x,e7,e8⟩ => ⟨at',s,o,e1,e2,e3,e4,e5,e6,x,e7,e8.1⟩
theorem drawCompareClauses_ok {code : List Int} (hc : CodeOK code) :
 CtrR Try.prog 28 [.d (D.bytes code)] [] [] true Q3:=by
 have c1:=vars2_ok hc
 have c2:=fun (v : Int) h => anyClauseL_ok hc v h
 refine CtrR.of (n:=19) (rs:=[.tmp 2,.tmp 3,.tmp 4]) Try.func28 rfl rfl Try.ntmps28 rfl rfl (by kernel_rfl) Try.checked.mixed ?_; intro u
 simp (disch:=first | omega | decide +kernel) only [curO,curB,D.bytes,go_sem,Qa,Qb,Qc,Qd,Qe,↓reduceIte,reduceCtorEq,Qf,Qg,Qh]
 (repeat' (first | ((first | (refine gsel_split (fun q' => ?_) (fun q' => ?_)<;>(have h':=q')<;>(try simp only [za1,za2,Ba,Bb,za3,ne_eq,za4,za5,za6,Ia,Ib,Ic,Ie,Da,Bc,Bd,Be,za7,za8] at h')<;>try (exfalso; omega)) | (have q':=trivial; first | (refine callX_draw (at_:=0) _ (c1) ⟨.inl rfl,trivial⟩ rfl (by simp [dstB]) (by omega) (by omega) (by omega) ?_; rintro _ ata sda hata1 hata2 hsda1 hsda2 ⟨xa,rfl,hxa⟩) | (refine callX_drawR _ (c2 _ (by omega)) ⟨.inl rfl,.inl rfl,trivial⟩ rfl (by decide) (by omega) (by omega) (by omega) (by omega) ?_; rintro atb sdb _ hatb1 hatb2 hsdb1 hsdb2 ⟨xb,rfl,hxb⟩) | refine hE _ _ ret_ne ?_ | refine hE _ _ exit_ne ?_))<;>(try simp (disch:=first | omega | decide +kernel) only [q',curO,curB,D.bytes,go_sem,Qa,Qb,Qc,Qd,Qe,↓reduceIte,reduceCtorEq,Qf,Qg,Qh])<;>clear q') | refine hN _ ?_ ?_ Wk.kk | with_reducible refine And.intro ?_ ?_ | with_reducible omega | exact ok_ints | exact cells_ints | exact no_mem | with_reducible exact plain_ints | (refine le_maxLen ?_; omega) | (refine za9 ⟨?_,?_⟩) | (simp only [go_sem,Qc,Qb,zb1,zb2,forall_eq]; done)))
 exact ⟨_,_,⟨_,_,_,rfl,rfl,by omega,by omega,by omega,by omega⟩,retM_vss (i:=1600000) (j:=1900000) rfl rfl rfl rfl rfl rfl (fun _ => rfl) fun _ => rfl⟩
theorem drawIsPart_ok {code : List Int} (hc : CodeOK code) :
 CtrR Try.prog 25 [.d (D.bytes code)] [] [] true Q3:=by
 have c1:=vars2_ok hc
 have c2:=fun (v : Int) h => anyClauseL_ok hc v h
 have c3:=fun (a b : List Int) h1 h2 => l2Join_ok a b h1 h2
 have c4:=one_ok hc 2 (by omega)
 simp only [D.ints] at c3
 refine CtrR.of (n:=39) (rs:=[.tmp 2,.tmp 3,.tmp 4]) Try.func25 rfl rfl Try.ntmps25 rfl rfl (by kernel_rfl) Try.checked.mixed ?_; intro u
 simp (disch:=first | omega | decide +kernel) only [curO,curB,D.bytes,go_sem,Qa,Qb,Qc,Qd,Qe,↓reduceIte,reduceCtorEq,Qf,Qg,Qh]
 (repeat' (first | ((first | (refine gsel_split (fun q' => ?_) (fun q' => ?_)<;>(have h':=q')<;>(try simp only [za1,za2,Ba,Bb,za3,ne_eq,za4,za5,za6,Ia,Ib,Ic,Ie,Da,Bc,Bd,Be,za7,za8] at h')<;>try (exfalso; omega)) | (have q':=trivial; first | (refine callX_draw (at_:=0) _ (c1) ⟨.inl rfl,trivial⟩ rfl (by simp [dstB]) (by omega) (by omega) (by omega) ?_; rintro _ ata sda hata1 hata2 hsda1 hsda2 ⟨xa,rfl,hxa⟩) | (refine callX_drawR _ (c2 _ (by omega)) ⟨.inl rfl,.inl rfl,trivial⟩ rfl (by decide) (by omega) (by omega) (by omega) (by omega) ?_; rintro atb sdb _ hatb1 hatb2 hsdb1 hsdb2 ⟨xb,rfl,hxb⟩) | refine callX_new (c3 _ _ (by omega) (by omega)) rfl (by decide) ?_ | refine callY_new (c3 _ _ (by omega) (by omega)) rfl ?_ | (refine callX_draw _ (c4) ⟨.inl rfl,.inl rfl,trivial⟩ rfl (by simp [dstB]) (by omega) (by omega) (by omega) ?_; rintro _ atd sdd hatd1 hatd2 hsdd1 hsdd2 ⟨xd,rfl,hxd⟩) | refine hE _ _ ret_ne ?_ | refine hE _ _ exit_ne ?_))<;>(try simp (disch:=first | omega | decide +kernel) only [q',curO,curB,D.bytes,go_sem,Qa,Qb,Qc,Qd,Qe,↓reduceIte,reduceCtorEq,Qf,Qg,Qh])<;>clear q') | refine hN _ ?_ ?_ Wk.kk | with_reducible refine And.intro ?_ ?_ | with_reducible omega | exact ok_ints | exact cells_ints | exact no_mem | with_reducible exact plain_ints | (refine le_maxLen ?_; omega) | (refine za9 ⟨?_,?_⟩) | (simp only [go_sem,Qc,Qb,zb1,zb2,forall_eq]; done)))
 all_goals (first
  | exact ⟨_,_,⟨_,_,_,rfl,rfl,by omega,by omega,by omega,by omega⟩,retM_vss (i:=1900000) (j:=2200000) rfl rfl rfl rfl rfl rfl (fun _ => rfl) fun _ => rfl⟩
  | exact ⟨_,_,⟨_,_,_,rfl,rfl,by omega,by omega,by omega,Nat.le_trans (joinI_length _ _) (by omega)⟩,retM_vss (i:=1900000) (j:=2600000) rfl rfl rfl rfl rfl rfl (fun _ => rfl) fun _ => rfl⟩
  )
theorem putL5 {a : List Int} {p : Int->Bool} {l : Int} (h : a.length<=5) : (putI (a.filter p) l).length<=1000:=by
 rw [length_putI]; have:=List.length_filter_le p a; omega
theorem drawResolveOn_ok {code : List Int} (hc : CodeOK code) :
 CtrR Try.prog 18 [.d (D.bytes code)] [] [] true fun r oo => ∃ (v : Int) (a b : List Int) (k : Int),r=.tup [.d (.int .i64 v),.sl 1,.sl 2,.d (.int .i64 k)]∧oo=[(1,rowI a),(2,rowI b)]∧-1<=v∧v<=13∧a.length<=1000∧b.length<=1000∧-100<=k∧k<=100:=by
 have c1:=vars2_ok hc
 have c2:=fun (v : Int) h => anyClauseL_ok hc v h
 have c4:=one_ok hc 4 (by omega)
 have c5:=amongB_ok hc [1,2,3,1,2,0] 0 3 (by simp) (by simp)
 simp only [List.map_cons,List.map_nil] at c5
 have c6:=fun (u : Int) (a : List Int) h => l2Clause_ok u a h
 have c7:=fun (x a b : Int) => l1In_ok x a b
 have c8:=fun (a : List Int) (v : Int) h => l2Without_ok a v h
 have hfl : ∀ (a : List Int) (v : Int),a.length<=5->(a.filter fun x => varI x != v).length<=5:=fun a v h => Nat.le_trans (List.length_filter_le _ _) h
 have c9:=fun (a : List Int) (v l : Int) (h : a.length<=5) => l2Put_ok (a.filter fun x => varI x != v) l (by have:=hfl a v h; omega)
 simp only [D.ints] at c6 c8 c9
 refine CtrR.of (n:=60) (rs:=[.tmp 2,.tmp 3,.tmp 4,.tmp 5]) Try.func18 rfl rfl Try.ntmps18 rfl rfl (by kernel_rfl) Try.checked.mixed ?_; intro u
 simp (disch:=first | omega | decide +kernel) only [curO,curB,D.bytes,go_sem,Qa,Qb,Qc,Qd,Qe,↓reduceIte,reduceCtorEq,Qf,Qg,Qh]
 (repeat' (first | ((first | (refine gsel_split (fun q' => ?_) (fun q' => ?_)<;>(have h':=q')<;>(try simp only [za1,za2,Ba,Bb,za3,ne_eq,za4,za5,za6,Ia,Ib,Ic,Ie,Da,Bc,Bd,Be,za7,za8] at h')<;>try (exfalso; omega)) | (have q':=trivial; first | (refine callX_draw (at_:=0) _ (c1) ⟨.inl rfl,trivial⟩ rfl (by simp [dstB]) (by omega) (by omega) (by omega) ?_; rintro _ ata sda hata1 hata2 hsda1 hsda2 ⟨xa,rfl,hxa⟩) | (refine callX_drawR _ (c2 _ (by omega)) ⟨.inl rfl,.inl rfl,trivial⟩ rfl (by decide) (by omega) (by omega) (by omega) (by omega) ?_; rintro atb sdb _ hatb1 hatb2 hsdb1 hsdb2 ⟨xb,rfl,hxb⟩) | (refine callX_drawL _ _ (c5) ⟨.inl rfl,.inl rfl,trivial⟩ rfl rfl (by decide) (by simp [dstB]) (by omega) (by omega) (by omega) ?_; rintro _ at1 sd1 hat1 hat2 hsd1 hsd2 ⟨x1,rfl,hx1⟩) | refine callX_new (c6 _ _ (by omega)) rfl (by decide) ?_ | refine callY_new (c6 _ _ (by omega)) rfl ?_ | refine callX_new (c7 _ _ _) rfl (by decide) ?_ | refine callY_new (c7 _ _ _) rfl ?_ | (refine callX_draw _ (c4) ⟨.inl rfl,.inl rfl,trivial⟩ rfl (by simp [dstB]) (by omega) (by omega) (by omega) ?_; rintro _ atd sdd hatd1 hatd2 hsdd1 hsdd2 ⟨xd,rfl,hxd⟩) | refine callX_new (c8 _ _ (by omega)) rfl (by decide) ?_ | refine callY_new (c8 _ _ (by omega)) rfl ?_ | refine callX_new (c9 _ _ _ (by omega)) rfl (by decide) ?_ | refine callY_new (c9 _ _ _ (by omega)) rfl ?_ | refine hE _ _ ret_ne ?_ | refine hE _ _ exit_ne ?_))<;>(try simp (disch:=first | omega | decide +kernel) only [q',curO,curB,D.bytes,go_sem,Qa,Qb,Qc,Qd,Qe,↓reduceIte,reduceCtorEq,Qf,Qg,Qh])<;>clear q') | refine hN _ ?_ ?_ Wk.kk | with_reducible refine And.intro ?_ ?_ | with_reducible omega | exact ok_ints | exact cells_ints | exact no_mem | with_reducible exact plain_ints | (refine le_maxLen ?_; omega) | (refine za9 ⟨?_,?_⟩) | (simp only [go_sem,Qc,Qb,zb1,zb2,forall_eq]; done)))
 all_goals (first
  | exact ⟨_,_,⟨_,_,_,_,rfl,rfl,by omega,by omega,by omega,by omega,by omega,by omega⟩,retM_vssv (i:=1900000) (j:=2200000) rfl rfl rfl rfl rfl rfl rfl (fun _ => rfl) fun _ => rfl⟩
  | exact ⟨_,_,⟨_,_,_,_,rfl,rfl,by omega,by omega,putL5 (by omega),putL5 (by omega),by omega,by omega⟩,retM_vssv (i:=4900000) (j:=5500000) rfl rfl rfl rfl rfl rfl rfl (fun _ => rfl) fun _ => rfl⟩
  )
theorem drawClauseOf_ok {code : List Int} (hc : CodeOK code) :
 CtrR Try.prog 31 [.d (D.bytes code)] [] [] true fun r oo => ∃ (v : Int) (a : List Int),r=.tup [.d (.int .i64 v),.sl 1]∧oo=[(1,rowI a)]∧-1<=v∧v<=13∧a.length<=1000:=by
 have c1:=vars2_ok hc
 have c2:=pick_ok hc 6 (by omega)
 have c3:=fun (v : Int) h => lit_ok hc v h
 have c4:=one_ok hc 24 (by omega)
 have c5:=pick_ok hc 2 (by omega)
 have hma : ∀ (l : List Int) (y : Int),(l.map (D.int .i64))++[.int .i64 y]=(l++[y]).map (D.int .i64):=fun l y => by simp
 refine CtrR.of (n:=39) (rs:=[.tmp 2,.tmp 3]) Try.func31 rfl rfl Try.ntmps31 rfl rfl (by kernel_rfl) Try.checked.mixed ?_; intro u
 simp (disch:=first | omega | decide +kernel) only [curO,curB,D.bytes,go_sem,Qa,Qb,Qc,Qd,Qe,↓reduceIte,reduceCtorEq,Qf,Qg,Qh]
 (repeat' (first | ((first | (refine gsel_split (fun q' => ?_) (fun q' => ?_)<;>(have h':=q')<;>(try simp only [za1,za2,Ba,Bb,za3,ne_eq,za4,za5,za6,Ia,Ib,Ic,Ie,Da,Bc,Bd,Be,za7,za8] at h')<;>try (exfalso; omega)) | (have q':=trivial; first | (refine callX_draw (at_:=0) _ (c1) ⟨.inl rfl,trivial⟩ rfl (by simp [dstB]) (by omega) (by omega) (by omega) ?_; rintro _ ata sda hata1 hata2 hsda1 hsda2 ⟨xa,rfl,hxa⟩) | (refine callX_draw _ (c2) ⟨.inl rfl,.inl rfl,trivial⟩ rfl (by simp [dstB]) (by omega) (by omega) (by omega) ?_; rintro _ atb sdb hatb1 hatb2 hsdb1 hsdb2 ⟨xb,rfl,hxb⟩) | refine hE _ _ ret_ne ?_ | refine hE _ _ exit_ne ?_))<;>(try simp (disch:=first | omega | decide +kernel) only [q',curO,curB,D.bytes,go_sem,Qa,Qb,Qc,Qd,Qe,↓reduceIte,reduceCtorEq,Qf,Qg,Qh])<;>clear q') | refine hN _ ?_ ?_ Wk.kk | with_reducible refine And.intro ?_ ?_ | with_reducible omega | exact ok_ints | exact cells_ints | exact no_mem | with_reducible exact plain_ints | (refine le_maxLen ?_; omega) | (refine za9 ⟨?_,?_⟩) | (simp only [go_sem,Qc,Qb,zb1,zb2,forall_eq]; done)))
 refine Ok.weak (show Wk _ _ ⟨[(7,.d (.int .i64 xb)),(6,.sl 13),(5,.d (.int .i64 xa)),(4,.p 10 0)],[(13,.arr 3 1 (([] : List Int).map (.int .i64))),(10,.box 104 [.d (.slice (code.map (.int .u8))),.d (.int .i64 (atb : Nat)),.d (.int .u64 sdb)])]⟩ from (Wk.kk)) ?_
 refine Ok.loopN [38,37,36,35,34,33,32,31,30,29,28,27,26,25,24,23,22,21,20,19,18,17,16,15,14,13,12,11,10,9,8,7,6,3,2,1,0] (fun i (a : (List Int × Int) × (Nat × Int)) => [(7,.d (.int .i64 a.1.2)),(6,.sl 13)])
  (fun _ (a : (List Int × Int) × (Nat × Int)) => [(13,.arr 3 1 (a.1.1.map (.int .i64))),(10,.box 104 [.d (.slice (code.map (.int .u8))),.d (.int .i64 (a.2.1 : Nat)),.d (.int .u64 a.2.2)])]) xb.toNat
  (fun i a => a.1.2=xb - i∧a.1.1.length=i∧a.2.1<=100 + 8 * i∧0<=a.2.2∧a.2.2 < 18446744073709551616) (([],xb),(atb,sdb)) ⟨by show xb=xb - ((0 : Nat) : Int); omega,rfl,by show atb<=100 + 8 * 0; omega,hsdb1,hsdb2⟩ (Wk.kk) ?_
 rintro R i ⟨⟨c,n⟩,a,s⟩ hN hE hi ⟨hn,hcl,ha,hs1,hs2⟩
 simp only at hn hcl ha hs1 hs2
 dsimp only
 by_cases h0 : 0 < n
 . simp (disch:=first | omega | decide +kernel) only [go_sem,Qa,Qb,Qc,Qd,Qe,↓reduceIte,reduceCtorEq,Qf,Qg,Qh]
   (repeat' (first | ((first | (refine gsel_split (fun q' => ?_) (fun q' => ?_)<;>(have h':=q')<;>(try simp only [za1,za2,Ba,Bb,za3,ne_eq,za4,za5,za6,Ia,Ib,Ic,Ie,Da,Bc,Bd,Be,za7,za8] at h')<;>try (exfalso; omega)) | (have q':=trivial; first | (refine callX_draw _ (c3 _ (by omega)) ⟨.inl rfl,.inl rfl,trivial⟩ rfl (by simp [dstB]) (by omega) (by omega) (by omega) ?_; rintro _ atc sdc hatc1 hatc2 hsdc1 hsdc2 ⟨xc,rfl,hxc⟩) | refine hE _ _ ret_ne ?_ | refine hE _ _ exit_ne ?_))<;>(try simp (disch:=first | omega | decide +kernel) only [q',curO,curB,D.bytes,hma,go_sem,Qa,Qb,Qc,Qd,Qe,↓reduceIte,reduceCtorEq,Qf,Qg,Qh])<;>clear q') | refine hN _ ?_ ?_ Wk.kk | with_reducible refine And.intro ?_ ?_ | with_reducible omega | exact ok_ints | exact cells_ints | exact no_mem | with_reducible exact plain_ints | (refine le_maxLen ?_; omega) | (refine za9 ⟨?_,?_⟩) | (simp only [go_sem,Qc,Qb,zb1,zb2,forall_eq]; done)))
   refine hN ((c++[xc],n - 1),(atc,sdc)) _ (by omega) ⟨by dsimp only; omega,by simp [hcl],by dsimp only; omega,hsdc1,hsdc2⟩ (Wk.kk)
 . have hil : i=xb.toNat:=by omega
   simp (disch:=first | omega | decide +kernel) only [go_sem,Qa,Qb,Qc,Qd,Qe,↓reduceIte,reduceCtorEq,Qf,Qg,Qh]
   (repeat' (first | ((first | (refine gsel_split (fun q' => ?_) (fun q' => ?_)<;>(have h':=q')<;>(try simp only [za1,za2,Ba,Bb,za3,ne_eq,za4,za5,za6,Ia,Ib,Ic,Ie,Da,Bc,Bd,Be,za7,za8] at h')<;>try (exfalso; omega)) | (have q':=trivial; first | (refine callX_draw _ (c4) ⟨.inl rfl,.inl rfl,trivial⟩ rfl (by simp [dstB]) (by omega) (by omega) (by omega) ?_; rintro _ atd sdd hatd1 hatd2 hsdd1 hsdd2 ⟨xd,rfl,hxd⟩) | refine hE _ _ ret_ne ?_ | refine hE _ _ exit_ne ?_))<;>(try simp (disch:=first | omega | decide +kernel) only [q',curO,curB,D.bytes,go_sem,Qa,Qb,Qc,Qd,Qe,↓reduceIte,reduceCtorEq,Qf,Qg,Qh])<;>clear q') | refine hN _ ?_ ?_ Wk.kk | with_reducible refine And.intro ?_ ?_ | with_reducible omega | exact ok_ints | exact cells_ints | exact no_mem | with_reducible exact plain_ints | (refine le_maxLen ?_; omega) | (refine za9 ⟨?_,?_⟩) | (simp only [go_sem,Qc,Qb,zb1,zb2,forall_eq]; done)))
   . clear hN
     refine Ok.weak (show Wk _ _ ⟨[(6,.sl 13),(5,.d (.int .i64 xa)),(4,.p 10 0)],[(13,.arr 3 1 (c.map (.int .i64))),(10,.box 104 [.d (.slice (code.map (.int .u8))),.d (.int .i64 (atd : Nat)),.d (.int .u64 sdd)])]⟩ from (Wk.kk)) ?_
     refine Ok.loopN [38,37,36,35,34,33,32,31,30,29,28,27,26,25,24,23,22,21,20,19,18,17,16,15,14,13,12,11,10,9,8,7,6,3,2,1,0] (fun i (a : List Int × (Nat × Int)) => [(6,.sl 13)])
      (fun _ (a : List Int × (Nat × Int)) => [(13,.arr 3 1 (a.1.map (.int .i64))),(10,.box 104 [.d (.slice (code.map (.int .u8))),.d (.int .i64 (a.2.1 : Nat)),.d (.int .u64 a.2.2)])]) 40
      (fun i a => i<=a.1.length∧a.1.length<=31∧a.2.1<=1000 + 2 * i∧0<=a.2.2∧a.2.2 < 18446744073709551616) (c,(atd,sdd)) ⟨by show 0<=c.length; omega,by show c.length<=31; omega,by show atd<=1000 + 2 * 0; omega,hsdd1,hsdd2⟩ (Wk.kk) ?_
     rintro R2 i2 ⟨c2',a2,s2⟩ hN hE2 hi2 ⟨hc1,hc2,ha2,hs21,hs22⟩
     simp only at hc1 hc2 ha2 hs21 hs22
     dsimp only
     simp (disch:=first | omega | decide +kernel) only [go_sem,Qa,Qb,Qc,Qd,Qe,↓reduceIte,reduceCtorEq,Qf,Qg,Qh]
     (repeat' (first | ((first | (refine gsel_split (fun q' => ?_) (fun q' => ?_)<;>(have h':=q')<;>(try simp only [za1,za2,Ba,Bb,za3,ne_eq,za4,za5,za6,Ia,Ib,Ic,Ie,Da,Bc,Bd,Be,za7,za8] at h')<;>try (exfalso; omega)) | (have q':=trivial; first | (refine callX_draw _ (c5) ⟨.inl rfl,.inl rfl,trivial⟩ rfl (by simp [dstB]) (by omega) (by omega) (by omega) ?_; rintro _ atf sdf hatf1 hatf2 hsdf1 hsdf2 ⟨xf,rfl,hxf⟩) | refine hE _ _ ret_ne ?_ | refine hE _ _ exit_ne ?_))<;>(try simp (disch:=first | omega | decide +kernel) only [q',curO,curB,D.bytes,hma,go_sem,Qa,Qb,Qc,Qd,Qe,↓reduceIte,reduceCtorEq,Qf,Qg,Qh])<;>clear q') | refine hN _ ?_ ?_ Wk.kk | with_reducible refine And.intro ?_ ?_ | with_reducible omega | exact ok_ints | exact cells_ints | exact no_mem | with_reducible exact plain_ints | (refine le_maxLen ?_; omega) | (refine za9 ⟨?_,?_⟩) | (simp only [go_sem,Qc,Qb,zb1,zb2,forall_eq]; done)))
     . refine hN (c2'++[1],(atf,sdf)) _ (by omega) ⟨by simp; omega,by simp; omega,by dsimp only; omega,hsdf1,hsdf2⟩ (Wk.kk)
     . refine hE2 _ _ exit_ne ?_
       simp (disch:=first | omega | decide +kernel) only [go_sem,Qa,Qb,Qc,Qd,Qe,↓reduceIte,reduceCtorEq,Qf,Qg,Qh]
       (repeat' (first | ((first | (refine gsel_split (fun q' => ?_) (fun q' => ?_)<;>(have h':=q')<;>(try simp only [za1,za2,Ba,Bb,za3,ne_eq,za4,za5,za6,Ia,Ib,Ic,Ie,Da,Bc,Bd,Be,za7,za8] at h')<;>try (exfalso; omega)) | (have q':=trivial; first | refine hE _ _ ret_ne ?_ | refine hE _ _ exit_ne ?_))<;>(try simp (disch:=first | omega | decide +kernel) only [q',go_sem,Qa,Qb,Qc,Qd,Qe,↓reduceIte,reduceCtorEq,Qf,Qg,Qh])<;>clear q') | refine hN _ ?_ ?_ Wk.kk | with_reducible refine And.intro ?_ ?_ | with_reducible omega | exact ok_ints | exact cells_ints | exact no_mem | with_reducible exact plain_ints | (refine le_maxLen ?_; omega) | (refine za9 ⟨?_,?_⟩) | (simp only [go_sem,Qc,Qb,zb1,zb2,forall_eq]; done)))
       exact ⟨_,_,⟨_,_,rfl,rfl,by omega,by omega,by omega⟩,retM_vs (i:=13) rfl rfl rfl (fun _ => rfl)⟩
   . exact ⟨_,_,⟨_,_,rfl,rfl,by omega,by omega,by omega⟩,retM_vs (i:=13) rfl rfl rfl (fun _ => rfl)⟩
end Abs.Y
