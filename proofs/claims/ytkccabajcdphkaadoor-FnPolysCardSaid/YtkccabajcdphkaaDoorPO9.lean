/- What functions of this program compute, over plain data. No condition. -/
import Derived.Test.YtkccabajcdphkaaDoorPO7
set_option linter.all false
namespace Abs.Y
open Go Go.Proofs Abs
open Nat renaming reduceEqDiff -> Qa, reduceLT -> Qb, reduceAdd -> Qc, reduceMul -> Qd, reduceSub -> Qe, reduceLeDiff -> Qf, reduceSubDiff -> Qg, reduceBEq -> Qh
open Bool renaming not_eq_true' -> Ba, not_eq_false' -> Bb, and_eq_true -> Bc, or_eq_true -> Bh, or_eq_false_iff -> Be
open Int renaming ofNat_lt -> Ia, ofNat_le -> Ib, not_lt -> Ic, not_le -> Ie
open Decidable renaming not_not -> Da
set_option maxRecDepth 100000

theorem l1LeastP_ok (a b : Int) : Ctr Tryd.prog 76 [.int .i64 a,.int .i64 b] false (.d (.int .i64 (min a b))) []:=by
 refine Ctr.of (n:=10) (rs:=[.tmp 4]) Tryd.func76 rfl rfl Tryd.ntmps76 rfl rfl (by kernel_rfl) Tryd.checked.mixed ?_
 simp (disch:=first | omega | decide +kernel) only [go_sem,Qa,Qb,Qc,Qd,Qe,↓reduceIte,reduceCtorEq,Qf,Qg,Qh]
 (repeat' (first | ((first | (refine gsel_split (fun q' => ?_) (fun q' => ?_)<;>(have h':=q')<;>(try simp only [za1,za2,Ba,Bb,za3,ne_eq,za4,za5,za6,Ia,Ib,Ic,Ie,Da,Bc,Bh,Be,za7,za8] at h')<;>try (exfalso; omega)) | (have q':=trivial; first | refine hE _ _ ret_ne ?_ | refine hE _ _ exit_ne ?_))<;>(try simp (disch:=first | omega | decide +kernel) only [q',go_sem,Qa,Qb,Qc,Qd,Qe,↓reduceIte,reduceCtorEq,Qf,Qg,Qh])<;>clear q') | refine hN _ ?_ ?_ Wk.kk | with_reducible refine And.intro ?_ ?_ | with_reducible omega | exact ok_ints | exact cells_ints | exact no_mem | with_reducible exact plain_ints | (refine le_maxLen ?_; omega) | (refine za9 ⟨?_,?_⟩) | (simp only [go_sem,Qc,Qb,zb1,zb2,forall_eq]; done)))
 all_goals (first | (congr 1; omega) | (simp_all; done))
@[reducible] def trmO (o : T2) : AO:=.arr 41 2 (o.map D.tm)
set_option maxHeartbeats 8000000 in
theorem drawPolyOf_ok {code : List Int} (hc : CodeOK code) : CtrR Tryd.prog 19 [.d (D.bytes code)] [] [] true fun r oo => oo=[]∧QP0 r:=by
 have c1:=prime18_ok hc
 have c3:=fun (n : Int) h => pick_ok hc n h
 have c4:=amongL_ok hc [-1,64,0] (by simp)
 have c5:=amongL_ok hc [1,-1,7] (by simp)
 simp only [List.map_cons,List.map_nil] at c4 c5
 have hap : ∀ (o : T2) (a b : Int),o.map D.tm++[.agg [.int .i64 a,.int .i64 b]]=(o++[(a,b)]).map D.tm:=fun o a b => by simp
 refine CtrR.ofO (n:=69) (rs:=[.tmp 2,.tmp 3,.tmp 4]) Tryd.func19 rfl rfl Tryd.ntmps19 rfl rfl (by kernel_rfl) Tryd.checked.mixed ?_; intro u
 refine Ok.endsW ?_
 refine Ok.go ?_
 simp (disch:=first | omega | decide +kernel) only [curO,curB,D.bytes,go_sem,Qa,Qb,Qc,Qd,Qe,↓reduceIte,reduceCtorEq,Qf,Qg,Qh]
 have c2:=c3 7 (by omega)
 (repeat' (first | ((first | (refine gsel_split (fun q' => ?_) (fun q' => ?_)<;>(have h':=q')<;>(try simp only [za1,za2,Ba,Bb,za3,ne_eq,za4,za5,za6,Ia,Ib,Ic,Ie,Da,Bc,Bh,Be,za7,za8] at h')<;>try (exfalso; omega)) | (have q':=trivial; first | (refine callX_draw (at_:=0) _ (c1) ⟨.inl rfl,trivial⟩ rfl (by simp [dstB]) (by omega) (by omega) (by omega) ?_; rintro _ ata sda hata1 hata2 hsda1 hsda2 ⟨xa,rfl,hxa⟩) | (refine callX_draw _ (c2) ⟨.inl rfl,.inl rfl,trivial⟩ rfl (by simp [dstB]) (by omega) (by omega) (by omega) ?_; rintro _ atb sdb hatb1 hatb2 hsdb1 hsdb2 ⟨xb,rfl,hxb⟩) | refine hE _ _ ret_ne ?_ | refine hE _ _ exit_ne ?_))<;>(try simp (disch:=first | omega | decide +kernel) only [q',curO,curB,D.bytes,go_sem,Qa,Qb,Qc,Qd,Qe,↓reduceIte,reduceCtorEq,Qf,Qg,Qh])<;>clear q') | refine hN _ ?_ ?_ Wk.kk | with_reducible refine And.intro ?_ ?_ | with_reducible omega | exact ok_ints | exact cells_ints | exact no_mem | with_reducible exact plain_ints | (refine le_maxLen ?_; omega) | (refine za9 ⟨?_,?_⟩) | (simp only [go_sem,Qc,Qb,zb1,zb2,forall_eq]; done)))
 obtain ⟨p,v⟩:=xa
 dsimp only at hxa ⊢
 obtain ⟨z,hz,hz0,hz6⟩ : ∃ z : Nat,min 6 (max 0 v)=z∧0<=z∧z<=6:=⟨(min 6 (max 0 v)).toNat,by omega,by omega,by omega⟩
 have d1:=l1Most_ok 0 v
 have d2:=l1LeastP_ok 6 (max 0 v)
 rw [hz] at d2
 have e : IntKind.wrap .i64 (1 * 2 ^ min z 64)=((2 ^ z : Nat) : Int):=shl_one (by omega)
 have h6:=pow_le6 (u:=z) (by omega)
 have h60 : 0<=2 ^ z:=Nat.zero_le _
 generalize 2 ^ z=n at *
 have d3:=l1LeastP_ok p 7
 have d4:=l1Most_ok 1 (min p 7)
 refine Ok.weak (show Wk _ _ ⟨[(9,.d (.int .i64 xb)),(8,.sl 18),(7,.d (.int .i64 v)),(6,.d (.int .i64 p)),(5,.p 12 0)],[(18,trmO []),(12,.box 95 [.d (.slice (code.map (.int .u8))),.d (.int .i64 (atb : Nat)),.d (.int .u64 sdb)])]⟩ from (Wk.kk)) ?_
 refine Ok.loopN [65,64,63,62,61,60,59,58,57,56,55,54,53,52,51,50,49,48,47,46,45,44,43,42,41,40,39,38,37,36,35,34,33,32,31,30,29,28,27,26,25,24,23,22,21,20,19,18,17,16,15,14,13,12,11,10,9,4,3,2,1,0] (fun i (a : T2 × (Nat × Int)) => [(9,.d (.int .i64 (xb - i)))])
  (fun _ (a : T2 × (Nat × Int)) => [(18,trmO a.1),(12,.box 95 [.d (.slice (code.map (.int .u8))),.d (.int .i64 (a.2.1 : Nat)),.d (.int .u64 a.2.2)])]) xb.toNat
  (fun i a => a.1.length=i∧atb<=a.2.1∧a.2.1<=atb + 4 * i∧0<=a.2.2∧a.2.2 < 18446744073709551616) ([],(atb,sdb)) ⟨rfl,Nat.le_refl _,Nat.le_refl _,hsdb1,hsdb2⟩ (by rw [show xb - ((0 : Nat) : Int)=xb by omega]; exact (Wk.kk)) ?_
 rintro R i ⟨o,a,s⟩ hN hE1 hi ⟨ho,ha1,ha2,hs1,hs2⟩
 dsimp only at ho ha1 ha2 hs1 hs2 ⊢
 by_cases h0 : 0 < xb - i
 . clear hE1 c4 c5 c1
   have c6:=c3 (n : Int) (by omega)
   have c7:=c3 (max 1 (min p 7)) (by omega)
   have hxs : xb - ((i + 1 : Nat) : Int)=xb - i - 1:=by omega
   simp (disch:=first | omega | decide +kernel) only [go_sem,Qa,Qb,Qc,Qd,Qe,↓reduceIte,reduceCtorEq,Qf,Qg,Qh]
   (repeat' (first | ((first | (refine gsel_split (fun q' => ?_) (fun q' => ?_)<;>(have h':=q')<;>(try simp only [za1,za2,Ba,Bb,za3,ne_eq,za4,za5,za6,Ia,Ib,Ic,Ie,Da,Bc,Bh,Be,za7,za8] at h')<;>try (exfalso; omega)) | (have q':=trivial; first | refine callX_new (d1) rfl (by decide) ?_ | refine callY_new (d1) rfl ?_ | refine callX_new (d2) rfl (by decide) ?_ | refine callY_new (d2) rfl ?_ | refine callX_new (d3) rfl (by decide) ?_ | refine callY_new (d3) rfl ?_ | refine callX_new (d4) rfl (by decide) ?_ | refine callY_new (d4) rfl ?_ | (refine callX_draw _ (c6) ⟨.inl rfl,.inl rfl,trivial⟩ rfl (by simp [dstB]) (by omega) (by omega) (by omega) ?_; rintro _ atc sdc hatc1 hatc2 hsdc1 hsdc2 ⟨xc,rfl,hxc⟩) | (refine callX_draw _ (c7) ⟨.inl rfl,.inl rfl,trivial⟩ rfl (by simp [dstB]) (by omega) (by omega) (by omega) ?_; rintro _ atd sdd hatd1 hatd2 hsdd1 hsdd2 ⟨xd,rfl,hxd⟩) | refine hE _ _ ret_ne ?_ | refine hE _ _ exit_ne ?_))<;>(try simp (disch:=first | omega | decide +kernel) only [q',curO,curB,D.bytes,e,go_sem,Qa,Qb,Qc,Qd,Qe,↓reduceIte,reduceCtorEq,Qf,Qg,Qh])<;>clear q') | refine hN _ ?_ ?_ Wk.kk | with_reducible refine And.intro ?_ ?_ | with_reducible omega | exact ok_ints | exact cells_ints | exact no_mem | with_reducible exact plain_ints | (refine le_maxLen ?_; omega) | (refine za9 ⟨?_,?_⟩) | (simp only [go_sem,Qc,Qb,zb1,zb2,forall_eq]; done)))
   all_goals (first | omega | (rw [ok_agg]; simp [D.atom]; done) | (rw [hap]; refine hN (o++[(xc,xd)],(atd,sdd)) _ (by omega) ⟨by simp [ho],by dsimp only; omega,by dsimp only; omega,hsdd1,hsdd2⟩ (by rw [hxs]; exact (Wk.kk))))
 clear hN d1 d2 d3 d4 e
 simp (disch:=first | omega | decide +kernel) only [go_sem,Qa,Qb,Qc,Qd,Qe,↓reduceIte,reduceCtorEq,Qf,Qg,Qh]
 (repeat' (first | ((first | (refine gsel_split (fun q' => ?_) (fun q' => ?_)<;>(have h':=q')<;>(try simp only [za1,za2,Ba,Bb,za3,ne_eq,za4,za5,za6,Ia,Ib,Ic,Ie,Da,Bc,Bh,Be,za7,za8] at h')<;>try (exfalso; omega)) | (have q':=trivial; first | refine hE _ _ ret_ne ?_ | refine hE _ _ exit_ne ?_))<;>(try simp (disch:=first | omega | decide +kernel) only [q',go_sem,Qa,Qb,Qc,Qd,Qe,↓reduceIte,reduceCtorEq,Qf,Qg,Qh])<;>clear q') | refine hN _ ?_ ?_ Wk.kk | with_reducible refine And.intro ?_ ?_ | with_reducible omega | exact ok_ints | exact cells_ints | exact no_mem | with_reducible exact plain_ints | (refine le_maxLen ?_; omega) | (refine za9 ⟨?_,?_⟩) | (simp only [go_sem,Qc,Qb,zb1,zb2,forall_eq]; done)))
 refine hE1 _ _ exit_ne ?_
 clear hE1
 have c6:=c3 32 (by omega)
 have c7:=c3 2 (by omega)
 have hol : o.length<=7:=by omega
 simp (disch:=first | omega | decide +kernel) only [go_sem,Qa,Qb,Qc,Qd,Qe,↓reduceIte,reduceCtorEq,Qf,Qg,Qh]
 (repeat' (first | ((first | (refine gsel_split (fun q' => ?_) (fun q' => ?_)<;>(have h':=q')<;>(try simp only [za1,za2,Ba,Bb,za3,ne_eq,za4,za5,za6,Ia,Ib,Ic,Ie,Da,Bc,Bh,Be,za7,za8] at h')<;>try (exfalso; omega)) | (have q':=trivial; first | (refine callX_draw _ (c6) ⟨.inl rfl,.inl rfl,trivial⟩ rfl (by simp [dstB]) (by omega) (by omega) (by omega) ?_; rintro _ atc sdc hatc1 hatc2 hsdc1 hsdc2 ⟨xc,rfl,hxc⟩) | (refine callX_drawL _ _ (c4) ⟨.inl rfl,.inl rfl,trivial⟩ rfl rfl (by decide) (by simp [dstB]) (by omega) (by omega) (by omega) ?_; rintro _ at1 sd1 hat1 hat2 hsd1 hsd2 ⟨x1,rfl,hx1⟩) | (refine callX_drawL _ _ (c5) ⟨.inl rfl,.inl rfl,trivial⟩ rfl rfl (by decide) (by simp [dstB]) (by omega) (by omega) (by omega) ?_; rintro _ at1 sd1 hat1 hat2 hsd1 hsd2 ⟨x1,rfl,hx1⟩) | refine hE _ _ ret_ne ?_ | refine hE _ _ exit_ne ?_))<;>(try simp (disch:=first | omega | decide +kernel) only [q',curO,curB,D.bytes,go_sem,Qa,Qb,Qc,Qd,Qe,↓reduceIte,reduceCtorEq,Qf,Qg,Qh])<;>clear q') | refine hN _ ?_ ?_ Wk.kk | with_reducible refine And.intro ?_ ?_ | with_reducible omega | exact ok_ints | exact cells_ints | exact no_mem | with_reducible exact plain_ints | (refine le_maxLen ?_; omega) | (refine za9 ⟨?_,?_⟩) | (simp only [go_sem,Qc,Qb,zb1,zb2,forall_eq]; done)))
 all_goals (first | omega | skip)
 all_goals (try (rw [ok_agg]; simp [D.atom]; done))
 . rw [hap]
   refine endF [18] ?_
   exact retR_d3 rfl rfl rfl ⟨rfl,((p,v),o++[(_,_)]),rfl,hxa,by simp; omega⟩
 . clear c1 c4 c5 c6
   refine Ok.weak (show Wk _ _ ⟨[(8,.sl 18),(7,.d (.int .i64 v)),(6,.d (.int .i64 p)),(5,.p 12 0)],[(18,trmO o),(12,.box 95 [.d (.slice (code.map (.int .u8))),.d (.int .i64 (atc : Nat)),.d (.int .u64 sdc)])]⟩ from (Wk.kk)) ?_
   refine Ok.loopN [65,64,63,62,61,60,59,58,57,56,55,54,53,52,51,50,49,48,47,46,45,44,43,42,41,40,39,38,37,36,35,34,33,32,31,30,29,28,27,26,25,24,23,22,21,20,19,18,17,16,15,14,13,12,11,10,9,4,3,2,1,0] (fun i (a : T2 × (Nat × Int)) => [])
    (fun _ (a : T2 × (Nat × Int)) => [(18,trmO a.1),(12,.box 95 [.d (.slice (code.map (.int .u8))),.d (.int .i64 (a.2.1 : Nat)),.d (.int .u64 a.2.2)])]) 110
    (fun i a => i<=a.1.length∧a.1.length<=101∧atc<=a.2.1∧a.2.1<=atc + 2 * i∧0<=a.2.2∧a.2.2 < 18446744073709551616) (o,(atc,sdc)) ⟨Nat.zero_le _,by dsimp only; omega,Nat.le_refl _,Nat.le_refl _,hsdc1,hsdc2⟩ (Wk.kk) ?_
   rintro R i2 ⟨o2,a2,s2⟩ hN hE1 hi2 ⟨g1,g2,g3,g4,g5,g6⟩
   dsimp only at g1 g2 g3 g4 g5 g6 ⊢
   simp (disch:=first | omega | decide +kernel) only [List.length_map,go_sem,Qa,Qb,Qc,Qd,Qe,↓reduceIte,reduceCtorEq,Qf,Qg,Qh]
   (repeat' (first | ((first | (refine gsel_split (fun q' => ?_) (fun q' => ?_)<;>(have h':=q')<;>(try simp only [za1,za2,Ba,Bb,za3,ne_eq,za4,za5,za6,Ia,Ib,Ic,Ie,Da,Bc,Bh,Be,za7,za8] at h')<;>try (exfalso; omega)) | (have q':=trivial; first | (refine callX_draw _ (c7) ⟨.inl rfl,.inl rfl,trivial⟩ rfl (by simp [dstB]) (by omega) (by omega) (by omega) ?_; rintro _ atd sdd hatd1 hatd2 hsdd1 hsdd2 ⟨xd,rfl,hxd⟩) | refine hE _ _ ret_ne ?_ | refine hE _ _ exit_ne ?_))<;>(try simp (disch:=first | omega | decide +kernel) only [q',curO,curB,D.bytes,List.length_map,go_sem,Qa,Qb,Qc,Qd,Qe,↓reduceIte,reduceCtorEq,Qf,Qg,Qh])<;>clear q') | refine hN _ ?_ ?_ Wk.kk | with_reducible refine And.intro ?_ ?_ | with_reducible omega | exact ok_ints | exact cells_ints | exact no_mem | with_reducible exact plain_ints | (refine le_maxLen ?_; omega) | (refine za9 ⟨?_,?_⟩) | (simp only [go_sem,Qc,Qb,zb1,zb2,forall_eq]; done)))
   all_goals (first | omega | (rw [ok_agg]; simp [D.atom]; done) | (rw [hap]; exact hN (o2++[(0,1)],(atd,sdd)) _ (by omega) ⟨by simp; omega,by simp; omega,by dsimp only; omega,by dsimp only; omega,hsdd1,hsdd2⟩ (Wk.kk)) | skip)
   refine hE1 _ _ exit_ne ?_
   simp (disch:=first | omega | decide +kernel) only [go_sem,Qa,Qb,Qc,Qd,Qe,↓reduceIte,reduceCtorEq,Qf,Qg,Qh]
   (repeat' (first | ((first | (refine gsel_split (fun q' => ?_) (fun q' => ?_)<;>(have h':=q')<;>(try simp only [za1,za2,Ba,Bb,za3,ne_eq,za4,za5,za6,Ia,Ib,Ic,Ie,Da,Bc,Bh,Be,za7,za8] at h')<;>try (exfalso; omega)) | (have q':=trivial; first | refine hE _ _ ret_ne ?_ | refine hE _ _ exit_ne ?_))<;>(try simp (disch:=first | omega | decide +kernel) only [q',go_sem,Qa,Qb,Qc,Qd,Qe,↓reduceIte,reduceCtorEq,Qf,Qg,Qh])<;>clear q') | refine hN _ ?_ ?_ Wk.kk | with_reducible refine And.intro ?_ ?_ | with_reducible omega | exact ok_ints | exact cells_ints | exact no_mem | with_reducible exact plain_ints | (refine le_maxLen ?_; omega) | (refine za9 ⟨?_,?_⟩) | (simp only [go_sem,Qc,Qb,zb1,zb2,forall_eq]; done)))
   refine endF [18] ?_
   exact retR_d3 rfl rfl rfl ⟨rfl,((p,v),o2),rfl,hxa,by dsimp only; omega⟩
 . refine endF [18] ?_
   exact retR_d3 rfl rfl rfl ⟨rfl,((p,v),o),rfl,hxa,by dsimp only; omega⟩
end Abs.Y

namespace Abs.Y
open Go Go.Proofs Abs
open Nat renaming reduceEqDiff -> Qa, reduceLT -> Qb, reduceAdd -> Qc, reduceMul -> Qd, reduceSub -> Qe, reduceLeDiff -> Qf, reduceSubDiff -> Qg, reduceBEq -> Qh
open Bool renaming not_eq_true' -> Ba, not_eq_false' -> Bb, and_eq_true -> Bc, or_eq_true -> Bh, or_eq_false_iff -> Be
open Int renaming ofNat_lt -> Ia, ofNat_le -> Ib, not_lt -> Ic, not_le -> Ie
open Decidable renaming not_not -> Da
set_option maxRecDepth 100000

abbrev BLs (s : ByteArray) : List UInt8:=s.data.toList
theorem ext_BLs {s t : ByteArray} (h : BLs s=BLs t) : s=t:=by
 cases s; cases t; simp only [BLs] at h; congr 1; exact Array.ext' h
theorem BLs_app (s t : ByteArray) : BLs (s++t)=BLs s++BLs t:=by
 show (s++t).data.toList=_
 rw [ByteArray.data_append,Array.toList_append]
theorem size_BLs (s : ByteArray) : s.size=(BLs s).length:=rfl
def numL (n : Nat) : List UInt8:=BLs (numN n)
def varsL (k m : Nat) : List UInt8:=(List.range k).flatMap fun v => if m.testBit v then [42,120]++numL (v + 1) else []
theorem varsL_succ (k m : Nat) : varsL (k + 1) m=varsL k m++if m.testBit k then [42,120]++numL (k + 1) else []:=by
 unfold varsL
 rw [List.range_succ,List.flatMap_append,List.flatMap_cons,List.flatMap_nil,List.append_nil]
def termL (u : Nat) (t : Int × Int) : List UInt8:=numL t.2.toNat++varsL u t.1.toNat
def termsL (u : Nat) : List (Int × Int)->List UInt8
 | [] => []
 | t :: r => termL u t++(r.map fun s => [32,43,32]++termL u s).flatten
theorem termsL_snoc (u : Nat) (l : List (Int × Int)) (t : Int × Int) (h : l ≠ []) : termsL u (l++[t])=termsL u l++([32,43,32]++termL u t):=by
 cases l with
 | nil => exact absurd rfl h
 | cons s r => simp only [List.cons_append,termsL,List.map_append,List.map_cons,List.map_nil,List.flatten_append,List.flatten_cons,List.flatten_nil,List.append_nil,List.append_assoc]
theorem numL_len (n : Nat) (h : n < 100) : (numL n).length<=2:=numN_size 1 n h
theorem varsL_len (k m : Nat) (hk : k<=6) : (varsL k m).length<=4 * k:=by
 induction k with
 | zero => simp [varsL]
 | succ k ih =>
   have h1:=ih (by omega)
   have h2:=numL_len (k + 1) (by omega)
   rw [varsL_succ,List.length_append]
   split
   . simp only [List.length_append,List.length_cons,List.length_nil]; omega
   . simp only [List.length_nil]; omega
theorem termL_len (u : Nat) (t : Int × Int) (hu : u<=6) (h : t.2.toNat < 100) : (termL u t).length<=30:=by
 have h1:=numL_len t.2.toNat h
 have h2:=varsL_len u t.1.toNat hu
 rw [termL,List.length_append]; omega
theorem termsL_len (u : Nat) (hu : u<=6) : ∀ l : List (Int × Int),(∀ t ∈ l,t.2.toNat < 100)->(termsL u l).length<=33 * l.length
 | [],_ => by simp [termsL]
 | t :: r, h => by
   have h1:=termL_len u t hu (h t (by simp))
   have : ∀ r : List (Int × Int),(∀ s ∈ r,s.2.toNat < 100)->((r.map fun s => [32,43,32]++termL u s).flatten).length<=33 * r.length:=by
    intro r
    induction r with
    | nil => intro _; simp
    | cons s r ih =>
      intro h
      have h2:=ih fun x hx => h x (by simp [hx])
      have h3:=termL_len u s hu (h s (by simp))
      simp only [List.map_cons,List.flatten_cons,List.length_append,List.length_cons,List.length_nil] at h2 ⊢
      omega
   have h2:=this r fun s hs => h s (by simp [hs])
   rw [termsL,List.length_append,List.length_cons]
   omega
def txtR (p v : Int) (a : List (Int × Int)) : ByteArray:=if ok1 p v a then (if a=[] then ⟨#[48]⟩ else ⟨(termsL v.toNat a).toArray⟩) else ⟨#[]⟩
def bitsN (m : Nat) : List Nat:=(List.range 6).filter fun x => m.testBit x
def bitsZ (m : Nat) : List Int:=(bitsN m).map fun x : Nat => (x : Int)
theorem bits_done : ∀ m,m < 64->∀ x,x < 7->m >>> x=0->((List.range x).filter fun x => m.testBit x)=bitsN m:=by decide +kernel
theorem bits_more : ∀ m,m < 64->m >>> 6=0:=by decide +kernel
theorem bits_low : ∀ u,u < 7->∀ m,m < 2 ^ u->((List.range u).filter fun x => m.testBit x)=bitsN m:=by decide +kernel
theorem bitsN_lt (m : Nat) : ∀ x ∈ bitsN m,x < 6:=fun x hx => List.mem_range.1 (List.mem_filter.1 hx).1
theorem vars_bits {u m : Nat} (hu : u<=6) (hm : m < 2 ^ u) : varsL u m=(bitsN m).flatMap fun x => [42,120]++numL (x + 1):=by
 rw [← bits_low u (by omega) m hm]
 unfold varsL
 generalize List.range u=l
 induction l with
 | nil => rfl
 | cons x r ih =>
   rw [List.flatMap_cons,ih,List.filter_cons]
   split
   . rw [List.flatMap_cons]
   . rfl
set_option maxHeartbeats 4000000 in
theorem l14List_ok (m : Nat) (hm : m < 64) : Ctr Tryd.prog 92 [.int .i64 (m : Nat)] false (.sl 0) [(0,.arr 3 1 ((bitsZ m).map (.int .i64)))]:=by
 have h6:=bits_more m hm
 have hd:=fun x (h : x < 7) h0 => bits_done m hm x h h0
 obtain ⟨f,hf⟩ : ∃ f : Nat->List Int,∀ x,f x=((List.range x).filter fun x => m.testBit x).map fun x : Nat => (x : Int):=⟨_,fun _ => rfl⟩
 have hs : ∀ x,f (x + 1)=if m.testBit x then f x++[(x : Int)] else f x:=fun x => by
  rw [hf,hf,List.range_succ,List.filter_append,List.map_append,List.filter_cons,List.filter_nil]
  split<;>simp
 have h0 : f 0=[]:=by rw [hf]; rfl
 have hlen : ∀ x,(f x).length<=x:=fun x => by
  rw [hf,List.length_map]
  have:=List.length_filter_le (fun x => m.testBit x) (List.range x)
  rwa [List.length_range] at this
 have hfin : ∀ x,x < 7->m >>> x=0->f x=bitsZ m:=fun x h h0 => by rw [hf,hd x h h0]; rfl
 clear hf hd
 generalize bitsZ m=G at *
 refine Ctr.of (n:=22) (rs:=[.tmp 2]) Tryd.func92 rfl rfl Tryd.ntmps92 rfl rfl (by kernel_rfl) Tryd.checked.mixed ?_
 simp (disch:=first | omega | decide +kernel) only [go_sem,Qa,Qb,Qc,Qd,Qe,↓reduceIte,reduceCtorEq,Qf,Qg,Qh]
 (repeat' (first | ((first | (refine gsel_split (fun q' => ?_) (fun q' => ?_)<;>(have h':=q')<;>(try simp only [za1,za2,Ba,Bb,za3,ne_eq,za4,za5,za6,Ia,Ib,Ic,Ie,Da,Bc,Bh,Be,za7,za8] at h')<;>try (exfalso; omega)) | (have q':=trivial; first | refine hE _ _ ret_ne ?_ | refine hE _ _ exit_ne ?_))<;>(try simp (disch:=first | omega | decide +kernel) only [q',go_sem,Qa,Qb,Qc,Qd,Qe,↓reduceIte,reduceCtorEq,Qf,Qg,Qh])<;>clear q') | refine hN _ ?_ ?_ Wk.kk | with_reducible refine And.intro ?_ ?_ | with_reducible omega | exact ok_ints | exact cells_ints | exact no_mem | with_reducible exact plain_ints | (refine le_maxLen ?_; omega) | (refine za9 ⟨?_,?_⟩) | (simp only [go_sem,Qc,Qb,zb1,zb2,forall_eq]; done)))
 refine Ok.loopN [20,19,18,17,16,15,14,13,12,11,10,9,8,7,6,5,4,1] (fun i (_ : Unit) => [(4,.d (.int .i64 (i : Nat)))]) (fun i (_ : Unit) => [(5,.arr 3 1 ((f i).map (.int .i64)))]) 6 (fun _ _ => True) () trivial (by rw [h0]; exact (Wk.kk)) ?_
 rintro R i ⟨⟩ hN hE hi _
 have e1 : (m : Int).fdiv (2 ^ min i 64)=((m >>> i : Nat) : Int):=shr_nat (by omega)
 have e2 : bitV .and .i64 ((m : Int).fdiv (2 ^ min i 64)) 1=bitI m i:=bit_of (by omega) (by omega)
 have e3 : bitV .and .i64 ((m >>> i : Nat) : Int) 1=bitI m i:=by rw [← e1]; exact e2
 have hsi:=hs i
 have hli:=hlen i
 clear hlen
 have hfi:=hfin i (by omega)
 by_cases hz : m >>> i=0
 . rw [hz] at e1
   have hG:=hfi hz
   rw [← hG] at hE
   simp (disch:=first | omega | decide +kernel) only [e1,Int.toNat_natCast,go_sem,Qa,Qb,Qc,Qd,Qe,↓reduceIte,reduceCtorEq,Qf,Qg,Qh]
   (repeat' (first | ((first | (refine gsel_split (fun q' => ?_) (fun q' => ?_)<;>(have h':=q')<;>(try simp only [za1,za2,Ba,Bb,za3,ne_eq,za4,za5,za6,Ia,Ib,Ic,Ie,Da,Bc,Bh,Be,za7,za8] at h')<;>try (exfalso; omega)) | (have q':=trivial; first | refine hE _ _ ret_ne ?_ | refine hE _ _ exit_ne ?_))<;>(try simp (disch:=first | omega | decide +kernel) only [q',e1,Int.toNat_natCast,go_sem,Qa,Qb,Qc,Qd,Qe,↓reduceIte,reduceCtorEq,Qf,Qg,Qh])<;>clear q') | refine hN _ ?_ ?_ Wk.kk | with_reducible refine And.intro ?_ ?_ | with_reducible omega | exact ok_ints | exact cells_ints | exact no_mem | with_reducible exact plain_ints | (refine le_maxLen ?_; omega) | (refine za9 ⟨?_,?_⟩) | (simp only [go_sem,Qc,Qb,zb1,zb2,forall_eq]; done)))
   all_goals (first | omega | exact ret_sl 5 rfl rfl plain_ints)
 . have hlt : i < 6:=by
    rcases Nat.lt_or_ge i 6 with h | h
    . exact h
    . have : i=6:=by omega
      subst this; exact absurd h6 hz
   clear hE hfin hfi hs h6
   generalize m >>> i=q at *
   cases hb : m.testBit i with
   | true =>
     have e4 : bitI m i=1:=by unfold bitI; rw [hb]; rfl
     rw [e4] at e3
     rw [hb,if_pos rfl] at hsi
     generalize f i=w at *
     generalize f (i + 1)=w' at *
     simp (disch:=first | omega | decide +kernel) only [e1,e3,Int.toNat_natCast,go_sem,Qa,Qb,Qc,Qd,Qe,↓reduceIte,reduceCtorEq,Qf,Qg,Qh]
     (repeat' (first | ((first | (refine gsel_split (fun q' => ?_) (fun q' => ?_)<;>(have h':=q')<;>(try simp only [za1,za2,Ba,Bb,za3,ne_eq,za4,za5,za6,Ia,Ib,Ic,Ie,Da,Bc,Bh,Be,za7,za8] at h')<;>try (exfalso; omega)) | (have q':=trivial; first | refine hE _ _ ret_ne ?_ | refine hE _ _ exit_ne ?_))<;>(try simp (disch:=first | omega | decide +kernel) only [q',e1,e3,Int.toNat_natCast,go_sem,Qa,Qb,Qc,Qd,Qe,↓reduceIte,reduceCtorEq,Qf,Qg,Qh])<;>clear q') | refine hN _ ?_ ?_ Wk.kk | with_reducible refine And.intro ?_ ?_ | with_reducible omega | exact ok_ints | exact cells_ints | exact no_mem | with_reducible exact plain_ints | (refine le_maxLen ?_; omega) | (refine za9 ⟨?_,?_⟩) | (simp only [go_sem,Qc,Qb,zb1,zb2,forall_eq]; done)))
     all_goals (first | omega | (subst hsi; exact hN () _ hlt trivial (by refine Wk.auto ?_ ?_<;>simp [extraK,lk,killL,St.kill,wipeO,wipeS,AV.has,AV.hasL,AO.wipe,List.map_set,updSt,insL,dropS,ins,List.map_append,List.map_cons,List.map_nil])))
   | false =>
     have e4 : bitI m i=0:=by unfold bitI; rw [hb]; rfl
     rw [e4] at e3
     rw [hb,if_neg (by simp)] at hsi
     generalize f i=w at *
     generalize f (i + 1)=w' at *
     simp (disch:=first | omega | decide +kernel) only [e1,e3,Int.toNat_natCast,go_sem,Qa,Qb,Qc,Qd,Qe,↓reduceIte,reduceCtorEq,Qf,Qg,Qh]
     (repeat' (first | ((first | (refine gsel_split (fun q' => ?_) (fun q' => ?_)<;>(have h':=q')<;>(try simp only [za1,za2,Ba,Bb,za3,ne_eq,za4,za5,za6,Ia,Ib,Ic,Ie,Da,Bc,Bh,Be,za7,za8] at h')<;>try (exfalso; omega)) | (have q':=trivial; first | refine hE _ _ ret_ne ?_ | refine hE _ _ exit_ne ?_))<;>(try simp (disch:=first | omega | decide +kernel) only [q',e1,e3,Int.toNat_natCast,go_sem,Qa,Qb,Qc,Qd,Qe,↓reduceIte,reduceCtorEq,Qf,Qg,Qh])<;>clear q') | refine hN _ ?_ ?_ Wk.kk | with_reducible refine And.intro ?_ ?_ | with_reducible omega | exact ok_ints | exact cells_ints | exact no_mem | with_reducible exact plain_ints | (refine le_maxLen ?_; omega) | (refine za9 ⟨?_,?_⟩) | (simp only [go_sem,Qc,Qb,zb1,zb2,forall_eq]; done)))
     all_goals (first | omega | (subst hsi; exact hN () _ hlt trivial (by refine Wk.auto ?_ ?_<;>simp [extraK,lk,killL,St.kill,wipeO,wipeS,AV.has,AV.hasL,AO.wipe,List.map_set,updSt,insL,dropS,ins,])))
end Abs.Y
