/- What functions of this program compute, over plain data. No condition. -/
import Derived.Test.YtdohpocdlkcaoaaGreatAbsJoin
import Derived.Test.YtdohpocdlkcaoaaGreatR3
set_option linter.all false
namespace Abs.Y
open Go Go.Proofs Abs
open Nat renaming reduceEqDiff -> Qa, reduceLT -> Qb, reduceAdd -> Qc, reduceMul -> Qd, reduceSub -> Qe, reduceLeDiff -> Qf, reduceSubDiff -> Qg, reduceBEq -> Qh
open Bool renaming not_eq_true' -> Ba, not_eq_false' -> Bb, and_eq_true -> Bc, or_eq_true -> Bd, or_eq_false_iff -> Be
open Int renaming ofNat_lt -> Ia, ofNat_le -> Ib, not_lt -> Ic, not_le -> Ie
open Decidable renaming not_not -> Da
set_option maxRecDepth 100000

def tkP (u : Int) (cs : List (List Int)) (st : List PSt) : Bool:=okCnf u cs && decide (st.length<=400)
theorem isPlaneRefutation_ok (u : Int) (cs : List (List Int)) (st : List PSt) (z : SzP cs st) (h : proofP u cs st=true) (ha : absB (st.getD (st.length - 1) PSt.z).q=true) (ht : tkP u cs st=true) :
 Ctr Tryz.prog 14 [.agg [.int .i64 u,.slice (cs.map D.ints)],.slice (st.map D.pst)] false (.tup [.d (.bool true),.d (.bool true)]) []:=by
 have hl:=z.hl
 have h0 : 0 < st.length:=by
  simp only [proofP,Bc,decide_eq_true_eq] at h; exact h.2.1
 have c1:=planeProof_ok u cs st z
 have c2:=lastPl_ok st h0 (by omega)
 have c3:=absurd_ok (st.getD (st.length - 1) PSt.z).q (by have:=z.hs (st.length - 1); omega)
 have c4:=isCnf_ok u cs (by have:=z.hc; omega) z.hcj
 simp only [tkP,Bc,decide_eq_true_eq] at ht
 rw [h] at c1; rw [ha] at c3; rw [ht.1] at c4
 have hle:=ht.2
 generalize st.getD (st.length - 1) PSt.z=s at *
 refine Ctr.of (n:=22) (rs:=[.tmp 4,.tmp 5]) Tryz.func14 rfl rfl Tryz.ntmps14 rfl rfl (by kernel_rfl) Tryz.checked.mixed ?_
 simp (disch:=first | omega | decide +kernel) only [D.pst,D.pl,List.length_map,go_sem,Qa,Qb,Qc,Qd,Qe,↓reduceIte,reduceCtorEq,Qf,Qg,Qh]
 (repeat' (first | ((first | (refine gsel_split (fun q' => ?_) (fun q' => ?_)<;>(have h':=q')<;>(try simp only [za1,za2,Ba,Bb,za3,ne_eq,za4,za5,za6,Ia,Ib,Ic,Ie,Da,Bc,Bd,Be,za7,za8] at h')<;>try (exfalso; omega)) | (have q':=trivial; first | refine callX_new (c1) rfl (by decide) ?_ | refine callY_new (c1) rfl ?_ | refine callX_shared (c2) rfl (by decide) ?_ | refine callY_shared (c2) rfl ?_ | refine callX_new (c3) rfl (by decide) ?_ | refine callY_new (c3) rfl ?_ | refine callX_new (c4) rfl (by decide) ?_ | refine callY_new (c4) rfl ?_ | refine hE _ _ ret_ne ?_ | refine hE _ _ exit_ne ?_))<;>(try simp (disch:=first | omega | decide +kernel) only [q',D.pst,D.pl,List.length_map,go_sem,Qa,Qb,Qc,Qd,Qe,↓reduceIte,reduceCtorEq,Qf,Qg,Qh])<;>clear q') | refine hN _ ?_ ?_ Wk.kk | with_reducible refine And.intro ?_ ?_ | with_reducible omega | exact ok_ints | exact cells_ints | exact no_mem | with_reducible exact plain_ints | (refine le_maxLen ?_; omega) | (refine za9 ⟨?_,?_⟩) | (simp only [go_sem,Qc,Qb,zb1,zb2,forall_eq]; done)))
 all_goals (first | exact absurd trivial h' | exact congrArg D.bool (decide_eq_true (by omega)))
theorem isPlaneProof_ok (u : Int) (cs : List (List Int)) (st : List PSt) (z : SzP cs st) (h : proofP u cs st=true) (ht : tkP u cs st=true) :
 Ctr Tryz.prog 18 [.agg [.int .i64 u,.slice (cs.map D.ints)],.slice (st.map D.pst)] false (.tup [.d (.bool true),.d (.bool true)]) []:=by
 have hl:=z.hl
 have c1:=planeProof_ok u cs st z
 have c4:=isCnf_ok u cs (by have:=z.hc; omega) z.hcj
 simp only [tkP,Bc,decide_eq_true_eq] at ht
 rw [h] at c1; rw [ht.1] at c4
 have hle:=ht.2
 refine Ctr.of (n:=16) (rs:=[.tmp 4,.tmp 5]) Tryz.func18 rfl rfl Tryz.ntmps18 rfl rfl (by kernel_rfl) Tryz.checked.mixed ?_
 simp (disch:=first | omega | decide +kernel) only [D.pst,List.length_map,go_sem,Qa,Qb,Qc,Qd,Qe,↓reduceIte,reduceCtorEq,Qf,Qg,Qh]
 (repeat' (first | ((first | (refine gsel_split (fun q' => ?_) (fun q' => ?_)<;>(have h':=q')<;>(try simp only [za1,za2,Ba,Bb,za3,ne_eq,za4,za5,za6,Ia,Ib,Ic,Ie,Da,Bc,Bd,Be,za7,za8] at h')<;>try (exfalso; omega)) | (have q':=trivial; first | refine callX_new (c1) rfl (by decide) ?_ | refine callY_new (c1) rfl ?_ | refine callX_new (c4) rfl (by decide) ?_ | refine callY_new (c4) rfl ?_ | refine hE _ _ ret_ne ?_ | refine hE _ _ exit_ne ?_))<;>(try simp (disch:=first | omega | decide +kernel) only [q',D.pst,List.length_map,go_sem,Qa,Qb,Qc,Qd,Qe,↓reduceIte,reduceCtorEq,Qf,Qg,Qh])<;>clear q') | refine hN _ ?_ ?_ Wk.kk | with_reducible refine And.intro ?_ ?_ | with_reducible omega | exact ok_ints | exact cells_ints | exact no_mem | with_reducible exact plain_ints | (refine le_maxLen ?_; omega) | (refine za9 ⟨?_,?_⟩) | (simp only [go_sem,Qc,Qb,zb1,zb2,forall_eq]; done)))
 all_goals (first | exact absurd trivial h' | exact congrArg D.bool (decide_eq_true (by omega)))
def hpC (n j : Nat) : Nat->List Int
 | 0 => List.replicate (n * (n + 1)) 0
 | i + 1 => (hpC n j i).set (i * n + j - 1) (-1)
theorem hpC_len (n j : Nat) : ∀ i,(hpC n j i).length=n * (n + 1)
 | 0 => by simp [hpC]
 | i + 1 => by simp [hpC,hpC_len n j i]
theorem hp_bd {n j i : Nat} (hn : 1<=n∧n<=3) (hj : 1<=j∧j<=n) (hi : i < n + 1) : i * n + j - 1 < n * (n + 1)∧n * (n + 1)<=12∧i * n<=9:=by
 rcases (by omega : n=1∨n=2∨n=3) with rfl | rfl | rfl<;>omega
set_option maxHeartbeats 4000000 in
theorem holePlane_ok (n j : Nat) (hn : 1<=n∧n<=3) (hj : 1<=j∧j<=n) :
 Ctr Tryz.prog 19 [.int .i64 (n : Nat),.int .i64 (j : Nat),.int .i64 ((n : Nat) + 1)] true (.tup [.d (D.pl ⟨hpC n j (n + 1),-1⟩),.d (.bool true)]) []:=by
 have c1:=holesOk_ok n
 have c2:=within_ok (j : Nat) 1 (n : Nat)
 have c3:=within_ok ((n : Nat) + 1) 2 ((n : Nat) + 1)
 rw [show (decide ((1 : Int)<=(n : Int)) && decide ((n : Int)<=3))=true by simp; omega] at c1
 rw [show (decide ((1 : Int)<=(j : Int)) && decide ((j : Int)<=(n : Int)))=true by simp; omega] at c2
 rw [show (decide ((2 : Int)<=(n : Int) + 1) && decide ((n : Int) + 1<=(n : Int) + 1))=true by simp; omega] at c3
 obtain ⟨b1,b2,_⟩:=hp_bd hn hj (i:=0) (by omega)
 have hN : (n : Int) * ((n : Int) + 1)=((n * (n + 1) : Nat) : Int):=by simp
 have hrep : hpC n j 0=List.replicate (n * (n + 1)) 0:=rfl
 generalize hNN : n * (n + 1)=N at *
 refine Ctr.of (n:=48) (rs:=[.cell 6 43,.tmp 7]) Tryz.func19 rfl rfl Tryz.ntmps19 rfl rfl (by kernel_rfl) Tryz.checked.mixed ?_
 simp (disch:=first | omega | decide +kernel) only [hN,go_sem,Qa,Qb,Qc,Qd,Qe,↓reduceIte,reduceCtorEq,Qf,Qg,Qh]
 (repeat' (first | ((first | (refine gsel_split (fun q' => ?_) (fun q' => ?_)<;>(have h':=q')<;>(try simp only [za1,za2,Ba,Bb,za3,ne_eq,za4,za5,za6,Ia,Ib,Ic,Ie,Da,Bc,Bd,Be,za7,za8] at h')<;>try (exfalso; omega)) | (have q':=trivial; first | refine callX_new (c1) rfl (by decide) ?_ | refine callY_new (c1) rfl ?_ | refine callX_new (c2) rfl (by decide) ?_ | refine callY_new (c2) rfl ?_ | refine callX_new (c3) rfl (by decide) ?_ | refine callY_new (c3) rfl ?_ | refine hE _ _ ret_ne ?_ | refine hE _ _ exit_ne ?_))<;>(try simp (disch:=first | omega | decide +kernel) only [q',hN,Int.toNat_natCast,go_sem,Qa,Qb,Qc,Qd,Qe,↓reduceIte,reduceCtorEq,Qf,Qg,Qh])<;>clear q') | refine hN _ ?_ ?_ Wk.kk | with_reducible refine And.intro ?_ ?_ | with_reducible omega | exact ok_ints | exact cells_ints | exact no_mem | with_reducible exact plain_ints | (refine le_maxLen ?_; omega) | (refine za9 ⟨?_,?_⟩) | (simp only [go_sem,Qc,Qb,zb1,zb2,forall_eq]; done)))
 refine Ok.loopN [47,46,45,44,43,42,41,40,39,38,37,36,35,34,32,31,30,29,28,27,26,25,24,23,22,21,20,19,18,17,16,15,14,13,12,11,10,9,5,4,3,2] (fun i _ => [(34,.d (.int .i64 (i : Nat)))]) (fun i (_ : Unit) => [(31,.arr 3 1 ((hpC n j i).map (.int .i64)))]) (n + 1) (fun _ _ => True) () trivial (by refine Wk.auto ?_ ?_<;>simp [extraK,lk,killL,St.kill,wipeO,wipeS,AV.has,AV.hasL,AO.wipe,List.map_set,updSt,insL,dropS,ins,hrep,List.map_replicate]) ?_
 rintro R i _ hN hE hi _
 have hlen:=hpC_len n j i
 rw [hNN] at hlen
 by_cases hlt : i < n + 1
 . obtain ⟨b3,_,b4⟩:=hp_bd hn hj (i:=i) (by omega)
   rw [hNN] at b3
   have hsu : hpC n j (i + 1)=(hpC n j i).set (i * n + j - 1) (-1):=rfl
   have hm : (i : Int) * (n : Int)=((i * n : Nat) : Int):=by simp
   have hset : ((hpC n j i).map (D.int .i64)).set (i * n + j - 1) (.int .i64 (-1))=(hpC n j (i + 1)).map (D.int .i64):=by rw [hsu,List.map_set]
   generalize hpC n j i=C at *
   generalize hpC n j (i + 1)=C' at *
   generalize i * n=p at *
   have hix : ((p : Nat) : Int) + (j : Nat) - 1=((p + j - 1 : Nat) : Int):=by omega
   have hea : (el (C.map (D.int .i64)) (p + j - 1)).isAgg=false:=by rw [el_ints (by omega)]; rfl
   simp (disch:=first | omega | decide +kernel) only [hm,hix,hea,hlen,List.length_map,Int.toNat_natCast,go_sem,Qa,Qb,Qc,Qd,Qe,↓reduceIte,reduceCtorEq,Qf,Qg,Qh]
   (repeat' (first | ((first | (refine gsel_split (fun q' => ?_) (fun q' => ?_)<;>(have h':=q')<;>(try simp only [za1,za2,Ba,Bb,za3,ne_eq,za4,za5,za6,Ia,Ib,Ic,Ie,Da,Bc,Bd,Be,za7,za8] at h')<;>try (exfalso; omega)) | (have q':=trivial; first | refine hE _ _ ret_ne ?_ | refine hE _ _ exit_ne ?_))<;>(try simp (disch:=first | omega | decide +kernel) only [q',hm,hix,hea,hlen,List.length_map,Int.toNat_natCast,go_sem,Qa,Qb,Qc,Qd,Qe,↓reduceIte,reduceCtorEq,Qf,Qg,Qh])<;>clear q') | refine hN _ ?_ ?_ Wk.kk | with_reducible refine And.intro ?_ ?_ | with_reducible omega | exact ok_ints | exact cells_ints | exact no_mem | with_reducible exact plain_ints | (refine le_maxLen ?_; omega) | (refine za9 ⟨?_,?_⟩) | (simp only [go_sem,Qc,Qb,zb1,zb2,forall_eq]; done)))
   rw [hset]
   exact hN () _ hlt trivial (by refine Wk.auto ?_ ?_<;>simp [extraK,lk,killL,St.kill,wipeO,wipeS,AV.has,AV.hasL,AO.wipe,List.map_set,updSt,insL,dropS,ins,])
 . obtain rfl : i=n + 1:=by omega
   simp (disch:=first | omega | decide +kernel) only [List.length_map,go_sem,Qa,Qb,Qc,Qd,Qe,↓reduceIte,reduceCtorEq,Qf,Qg,Qh]
   (repeat' (first | ((first | (refine gsel_split (fun q' => ?_) (fun q' => ?_)<;>(have h':=q')<;>(try simp only [za1,za2,Ba,Bb,za3,ne_eq,za4,za5,za6,Ia,Ib,Ic,Ie,Da,Bc,Bd,Be,za7,za8] at h')<;>try (exfalso; omega)) | (have q':=trivial; first | refine hE _ _ ret_ne ?_ | refine hE _ _ exit_ne ?_))<;>(try simp (disch:=first | omega | decide +kernel) only [q',List.length_map,go_sem,Qa,Qb,Qc,Qd,Qe,↓reduceIte,reduceCtorEq,Qf,Qg,Qh])<;>clear q') | refine hN _ ?_ ?_ Wk.kk | with_reducible refine And.intro ?_ ?_ | with_reducible omega | exact ok_ints | exact cells_ints | exact no_mem | with_reducible exact plain_ints | (refine le_maxLen ?_; omega) | (refine za9 ⟨?_,?_⟩) | (simp only [go_sem,Qc,Qb,zb1,zb2,forall_eq]; done)))
   all_goals (first | omega | exact ret_scbd [31] rfl rfl rfl (by simp only [go_sem]) (by simp only [go_sem,List.length_cons,List.length_nil]) rfl (by simp only [go_sem]))
theorem drawPigeonCnf_ok {code : List Int} (hc : CodeOK code) :
 CtrR Tryz.prog 34 [.d (D.bytes code)] [] [] true fun r oo => ∃ v : Int,r=.d (.int .i64 v)∧oo=[]∧-1<=v∧v<=4:=by
 have c1:=amongB_ok hc [1,2,3,0,4,-1] (-1) 4 (by simp) (by simp)
 simp only [List.map_cons,List.map_nil] at c1
 refine CtrR.of (n:=10) (rs:=[.tmp 2]) Tryz.func34 rfl rfl Tryz.ntmps34 rfl rfl (by kernel_rfl) Tryz.checked.mixed ?_; intro u
 simp (disch:=first | omega | decide +kernel) only [curO,curB,D.bytes,go_sem,Qa,Qb,Qc,Qd,Qe,↓reduceIte,reduceCtorEq,Qf,Qg,Qh]
 (repeat' (first | ((first | (refine gsel_split (fun q' => ?_) (fun q' => ?_)<;>(have h':=q')<;>(try simp only [za1,za2,Ba,Bb,za3,ne_eq,za4,za5,za6,Ia,Ib,Ic,Ie,Da,Bc,Bd,Be,za7,za8] at h')<;>try (exfalso; omega)) | (have q':=trivial; first | (refine callX_drawL (at_:=0) _ _ (c1) ⟨.inl rfl,.inl rfl,trivial⟩ rfl rfl (by decide) (by simp [dstB]) (by omega) (by omega) (by omega) ?_; rintro _ at1 sd1 hat1 hat2 hsd1 hsd2 ⟨x1,rfl,hx1⟩) | refine hE _ _ ret_ne ?_ | refine hE _ _ exit_ne ?_))<;>(try simp (disch:=first | omega | decide +kernel) only [q',curO,curB,D.bytes,go_sem,Qa,Qb,Qc,Qd,Qe,↓reduceIte,reduceCtorEq,Qf,Qg,Qh])<;>clear q') | refine hN _ ?_ ?_ Wk.kk | with_reducible refine And.intro ?_ ?_ | with_reducible omega | exact ok_ints | exact cells_ints | exact no_mem | with_reducible exact plain_ints | (refine le_maxLen ?_; omega) | (refine za9 ⟨?_,?_⟩) | (simp only [go_sem,Qc,Qb,zb1,zb2,forall_eq]; done)))
 all_goals (first | exact ⟨_,_,⟨_,rfl,rfl,hx1.1,hx1.2⟩,retM_v rfl⟩)
theorem drawPigeonPlanes_ok {code : List Int} (hc : CodeOK code) :
 CtrR Tryz.prog 6 [.d (D.bytes code)] [] [] true fun r oo => ∃ v : Int,r=.d (.int .i64 v)∧oo=[]∧-1<=v∧v<=4:=by
 refine CtrR.of (n:=5) (rs:=[.tmp 2]) Tryz.func6 rfl rfl Tryz.ntmps6 rfl rfl (by kernel_rfl) Tryz.checked.mixed ?_; intro u
 simp (disch:=first | omega | decide +kernel) only [go_sem,Qa,Qb,Qc,Qd,Qe,↓reduceIte,reduceCtorEq,Qf,Qg,Qh]
 refine callX_rel [] [] [] (drawPigeonCnf_ok hc) ⟨.inl rfl,trivial⟩ trivial (by simp [namesI,keysO]) (by simp [dstB]) ?_
 rintro _ _ ⟨v,rfl,rfl,h1,h2⟩
 refine ⟨by simp [namesOK,keysO],?_⟩
 simp (disch:=first | omega | decide +kernel) only [go_sem,Qa,Qb,Qc,Qd,Qe,↓reduceIte,reduceCtorEq,Qf,Qg,Qh]
 all_goals (first | exact ⟨_,_,⟨_,rfl,rfl,h1,h2⟩,retM_v rfl⟩)
theorem drawHoleSteps_ok {code : List Int} (hc : CodeOK code) :
 CtrR Tryz.prog 15 [.d (D.bytes code)] [] [] true fun r oo => ∃ v w : Int,r=.tup [.d (.int .i64 v),.d (.int .i64 w)]∧oo=[]∧(0<=v∧v<=4)∧0<=w∧w<=4:=by
 have c1:=amongB_ok hc [1,2,3,3,0,4] 0 4 (by simp) (by simp)
 have c2:=amongB_ok hc [1,2,3,1,0,4] 0 4 (by simp) (by simp)
 simp only [List.map_cons,List.map_nil] at c1 c2
 refine CtrR.of (n:=14) (rs:=[.tmp 2,.tmp 3]) Tryz.func15 rfl rfl Tryz.ntmps15 rfl rfl (by kernel_rfl) Tryz.checked.mixed ?_; intro u
 simp (disch:=first | omega | decide +kernel) only [curO,curB,D.bytes,go_sem,Qa,Qb,Qc,Qd,Qe,↓reduceIte,reduceCtorEq,Qf,Qg,Qh]
 (repeat' (first | ((first | (refine gsel_split (fun q' => ?_) (fun q' => ?_)<;>(have h':=q')<;>(try simp only [za1,za2,Ba,Bb,za3,ne_eq,za4,za5,za6,Ia,Ib,Ic,Ie,Da,Bc,Bd,Be,za7,za8] at h')<;>try (exfalso; omega)) | (have q':=trivial; first | (refine callX_drawL (at_:=0) _ _ (c1) ⟨.inl rfl,.inl rfl,trivial⟩ rfl rfl (by decide) (by simp [dstB]) (by omega) (by omega) (by omega) ?_; rintro _ at1 sd1 hat1 hat2 hsd1 hsd2 ⟨x1,rfl,hx1⟩) | (refine callX_drawL _ _ (c2) ⟨.inl rfl,.inl rfl,trivial⟩ rfl rfl (by decide) (by simp [dstB]) (by omega) (by omega) (by omega) ?_; rintro _ at1 sd1 hat1 hat2 hsd1 hsd2 ⟨x1,rfl,hx1⟩) | refine hE _ _ ret_ne ?_ | refine hE _ _ exit_ne ?_))<;>(try simp (disch:=first | omega | decide +kernel) only [q',curO,curB,D.bytes,go_sem,Qa,Qb,Qc,Qd,Qe,↓reduceIte,reduceCtorEq,Qf,Qg,Qh])<;>clear q') | refine hN _ ?_ ?_ Wk.kk | with_reducible refine And.intro ?_ ?_ | with_reducible omega | exact ok_ints | exact cells_ints | exact no_mem | with_reducible exact plain_ints | (refine le_maxLen ?_; omega) | (refine za9 ⟨?_,?_⟩) | (simp only [go_sem,Qc,Qb,zb1,zb2,forall_eq]; done)))
 exact ⟨_,_,⟨_,_,rfl,rfl,⟨by omega,by omega⟩,by omega,by omega⟩,retM_vv rfl rfl⟩
end Abs.Y

namespace Abs.Y
open Go Go.Proofs Abs
open Nat renaming reduceEqDiff -> Qa, reduceLT -> Qb, reduceAdd -> Qc, reduceMul -> Qd, reduceSub -> Qe, reduceLeDiff -> Qf, reduceSubDiff -> Qg, reduceBEq -> Qh
open Bool renaming not_eq_true' -> Ba, not_eq_false' -> Bb, and_eq_true -> Bc, or_eq_true -> Bd, or_eq_false_iff -> Be
open Int renaming ofNat_lt -> Ia, ofNat_le -> Ib, not_lt -> Ic, not_le -> Ie
open Decidable renaming not_not -> Da
set_option maxRecDepth 100000

theorem r_bytes {x : D} (h : isSl isU8 x) : ∃ code : List Int,x=D.bytes code∧∀ i,0<=code.getD i 0∧code.getD i 0 < 256:=by
 obtain ⟨es,rfl,_,hes⟩:=h
 have key : ∀ es : List D,(∀ e ∈ es,isU8 e)->∃ code : List Int,es=code.map (D.int .u8)∧∀ b ∈ code,0<=b∧b < 256:=by
  intro es
  induction es with
  | nil => exact fun _ => ⟨[],rfl,fun _ h => by cases h⟩
  | cons e r ih =>
    intro h
    obtain ⟨n,rfl,h1,h2⟩:=h e (by simp)
    obtain ⟨c,rfl,hc⟩:=ih fun x hx => h x (by simp [hx])
    exact ⟨n :: c,rfl,fun b hb => by
     rcases List.mem_cons.1 hb with rfl | hb
     . omega
     . exact hc b hb⟩
 obtain ⟨code,rfl,hc⟩:=key es hes
 refine ⟨code,rfl,fun i => ?_⟩
 by_cases hi : i < code.length
 . exact hc _ (getD_mem hi)
 . simp [List.getD_eq_getElem?_getD,List.getElem?_eq_none (show code.length<=i by omega)]
end Abs.Y
