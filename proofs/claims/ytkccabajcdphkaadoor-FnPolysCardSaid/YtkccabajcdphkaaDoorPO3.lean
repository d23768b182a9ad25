/- What functions of this program compute, over plain data. No condition. -/
import Derived.Test.YtkccabajcdphkaaDoorR1
import Derived.Test.YtkccabajcdphkaaDoorR7
set_option linter.all false
open Nat renaming reduceEqDiff -> Qa, reduceLT -> Qb, reduceAdd -> Qc, reduceMul -> Qd, reduceSub -> Qe, reduceLeDiff -> Qf, reduceSubDiff -> Qg, reduceBEq -> Qh
open Bool renaming not_eq_true' -> Ba, not_eq_false' -> Bb, and_eq_true -> Bc, or_eq_true -> Bh, or_eq_false_iff -> Be
open Int renaming ofNat_lt -> Ia, ofNat_le -> Ib, not_lt -> Ic, not_le -> Ie
open Decidable renaming not_not -> Da
namespace Abs
open Go Go.Proofs
end Abs
namespace Abs.Y
open Go Go.Proofs Abs
set_option maxRecDepth 100000

@[reducible] def rowT (x : List (Int × Int)) : AO:=.arr 41 2 (x.map D.tm)
@[reducible] def QT (Q : List (Int × Int)->Prop) : AO->Prop:=fun o => ∃ x : List (Int × Int),o=rowT x∧Q x
theorem retR_drawT {t j : Nat} {u : Nat->Value} {st : St} {code : List Int} {at_ k : Nat} {Q : List (Int × Int)->Prop} {at' : Nat} {seed' : Int} {x : List (Int × Int)} (h : lk t st.s=some (.sl j)) (ho : lk 0 st.o=some (curB code at' seed')) (hj : lk j st.o=some (rowT x)) (hk : lk 1000000000 st.s=some (.hdr 0 (u 0)))
 (hne : ¬ j=0) (h1 : at_<=at') (h2 : at'<=at_ + k) (h3 : 0<=seed') (h4 : seed' < 18446744073709551616) (hQ : Q x) :
 retR Tryd.prog [.tmp t] u [0] true (fun r oo => ∃ at' seed' o,at_<=at'∧at'<=at_ + k∧0<=seed'∧seed' < 18446744073709551616∧r=.sl 1∧oo=[(0,curB code at' seed'),(1,o)]∧QT Q o) .ret st :=
 ⟨_,_,⟨at',seed',_,h1,h2,h3,h4,rfl,rfl,_,rfl,hQ⟩,retM_ns h ho hj hk hne (fun _ => rfl) (fun _ => rfl)⟩
theorem mod_bd {p : Int} (hp : 1 < p∧p<=5) {v : List Int} {n : Nat} (hv : v.length=n) : ((spT (v.map fun x => x % p)).length<=n):=by
 have:=sp_len (v.map fun x => x % p)
 rw [List.length_map] at this; omega
set_option maxHeartbeats 4000000 in
theorem poly_ok {code : List Int} (hc : CodeOK code) (p v : Int) (hb : 2<=p∧p<=7∧-1<=v∧v<=13) : DrawsR 69 [.d (.int .i64 p),.d (.int .i64 v)] 100 (QT fun x => x.length<=70) code:=fun at_ seed h1 h2 h3 => by
 have c1:=l18Prime_ok p v
 have c2:=amongB_ok hc [1,2,3,4,6,0,9] 0 9 (by simp) (by simp)
 have c3:=fun (n : Int) h => pick_ok hc n h
 have c4:=fun (y : Int) (h : -1<=y∧y<=10000) => amongB_ok hc [0,y,-1] (-1) 10000 (by simp) (by simp; omega)
 simp only [List.map_cons,List.map_nil] at c2 c4
 cases hpr : primeB p v with
 | false =>
   rw [hpr] at c1
   refine CtrR.of (n:=67) (rs:=[.tmp 6]) Tryd.func69 rfl rfl Tryd.ntmps69 rfl rfl (by kernel_rfl) Tryd.checked.mixed ?_; intro u
   simp (disch:=first | omega | decide +kernel) only [curO,curB,D.bytes,go_sem,Qa,Qb,Qc,Qd,Qe,↓reduceIte,reduceCtorEq,Qf,Qg,Qh]
   (repeat' (first | ((first | (refine gsel_split (fun q' => ?_) (fun q' => ?_)<;>(have h':=q')<;>(try simp only [za1,za2,Ba,Bb,za3,ne_eq,za4,za5,za6,Ia,Ib,Ic,Ie,Da,Bc,Bh,Be,za7,za8] at h')<;>try (exfalso; omega)) | (have q':=trivial; first | refine callX_new (c1) rfl (by decide) ?_ | refine callY_new (c1) rfl ?_ | refine hE _ _ ret_ne ?_ | refine hE _ _ exit_ne ?_))<;>(try simp (disch:=first | omega | decide +kernel) only [q',curO,curB,D.bytes,go_sem,Qa,Qb,Qc,Qd,Qe,↓reduceIte,reduceCtorEq,Qf,Qg,Qh])<;>clear q') | refine hN _ ?_ ?_ Wk.kk | with_reducible refine And.intro ?_ ?_ | with_reducible omega | exact ok_ints | exact cells_ints | exact no_mem | with_reducible exact plain_ints | (refine le_maxLen ?_; omega) | (refine za9 ⟨?_,?_⟩) | (simp only [go_sem,Qc,Qb,zb1,zb2,forall_eq]; done)))
   all_goals (first | (rw [ok_agg]; simp [D.atom]; done) | exact retR_drawT (x:=[(0,1)]) rfl rfl rfl rfl (by decide) (by omega) (by omega) (by omega) (by omega) (by simp))
 | true =>
   rw [hpr] at c1
   obtain ⟨hp,hu0,hu6⟩:=primeB_of hpr
   obtain ⟨z,rfl⟩:=Int.eq_ofNat_of_zero_le hu0
   have h6:=pow_le6 (u:=z) (by omega)
   have h61 : 1<=2 ^ z:=Nat.one_le_two_pow
   have e : IntKind.wrap .i64 (1 * 2 ^ min z 64)=((2 ^ z : Nat) : Int):=shl_one (by omega)
   have c5:=fun {w : List Int} hl hv => l18Sparse_ok (p:=p) (by omega) (u:=z) (by omega) (v:=w) hl hv
   generalize 2 ^ z=n at *
   obtain ⟨vv,hvv⟩ : ∃ vv,vv=List.replicate n (0 : Int):=⟨_,rfl⟩
   have hrep : List.replicate n (D.int .i64 0)=vv.map (.int .i64):=by rw [hvv,List.map_replicate]
   have hvl : vv.length=n:=by rw [hvv,List.length_replicate]
   have hvb : ∀ i,0<=vv.getD i 0∧vv.getD i 0<=1000:=fun i => by rw [hvv,getD_zero]; omega
   clear hvv
   refine CtrR.of (n:=67) (rs:=[.tmp 6]) Tryd.func69 rfl rfl Tryd.ntmps69 rfl rfl (by kernel_rfl) Tryd.checked.mixed ?_; intro u
   simp (disch:=first | omega | decide +kernel) only [curO,curB,D.bytes,go_sem,Qa,Qb,Qc,Qd,Qe,↓reduceIte,reduceCtorEq,Qf,Qg,Qh]
   (repeat' (first | ((first | (refine gsel_split (fun q' => ?_) (fun q' => ?_)<;>(have h':=q')<;>(try simp only [za1,za2,Ba,Bb,za3,ne_eq,za4,za5,za6,Ia,Ib,Ic,Ie,Da,Bc,Bh,Be,za7,za8] at h')<;>try (exfalso; omega)) | (have q':=trivial; first | refine callX_new (c1) rfl (by decide) ?_ | refine callY_new (c1) rfl ?_ | (refine callX_drawL _ _ (c2) ⟨.inl rfl,.inl rfl,trivial⟩ rfl rfl (by decide) (by simp [dstB]) (by omega) (by omega) (by omega) ?_; rintro _ at1 sd1 hat1 hat2 hsd1 hsd2 ⟨x1,rfl,hx1⟩) | refine hE _ _ ret_ne ?_ | refine hE _ _ exit_ne ?_))<;>(try simp (disch:=first | omega | decide +kernel) only [q',curO,curB,D.bytes,e,go_sem,Qa,Qb,Qc,Qd,Qe,↓reduceIte,reduceCtorEq,Qf,Qg,Qh])<;>clear q') | refine hN _ ?_ ?_ Wk.kk | with_reducible refine And.intro ?_ ?_ | with_reducible omega | exact ok_ints | exact cells_ints | exact no_mem | with_reducible exact plain_ints | (refine le_maxLen ?_; omega) | (refine za9 ⟨?_,?_⟩) | (simp only [go_sem,Qc,Qb,zb1,zb2,forall_eq]; done)))
   rw [hrep]
   refine Ok.weak (show Wk _ _ ⟨[(1000000000,.hdr 0 (u 0)),(9,.d (.int .i64 x1)),(8,.sl 21),(7,.sl 10),(6,.sl 6),(2,.d (.int .i64 (z : Nat))),(1,.d (.int .i64 p)),(0,.p 0 0)],[(21,.arr 3 1 (vv.map (.int .i64))),(10,.arr 41 2 []),(6,.arr 41 2 []),(0,.box 95 [.d (.slice (code.map (.int .u8))),.d (.int .i64 (at1 : Nat)),.d (.int .u64 sd1)])]⟩ from (Wk.kk)) ?_
   refine Ok.loopN [66,65,64,63,62,61,60,59,58,57,56,55,54,53,52,51,50,49,48,47,46,45,44,43,42,41,40,39,38,37,36,35,34,33,32,31,30,29,28,27,26,25,24,23,22,21,20,19,18,17,16,15,14,13,12,11,10,9,5,4,3] (fun i (a : (List Int × Int) × (Nat × Int)) => [(9,.d (.int .i64 a.1.2))])
    (fun _ (a : (List Int × Int) × (Nat × Int)) => [(21,.arr 3 1 (a.1.1.map (.int .i64))),(0,.box 95 [.d (.slice (code.map (.int .u8))),.d (.int .i64 (a.2.1 : Nat)),.d (.int .u64 a.2.2)])]) x1.toNat
    (fun i a => a.1.2=x1 - i∧a.1.1.length=n∧(∀ k,0<=a.1.1.getD k 0∧a.1.1.getD k 0<=1000)∧at1<=a.2.1∧a.2.1<=at1 + 4 * i∧0<=a.2.2∧a.2.2 < 18446744073709551616) ((vv,x1),(at1,sd1)) ⟨by show x1=x1 - ((0 : Nat) : Int); omega,hvl,hvb,Nat.le_refl _,Nat.le_refl _,hsd1,hsd2⟩ (Wk.kk) ?_
   rintro R i ⟨⟨w,m⟩,a,s⟩ hN hE hi ⟨hm,hwl,hwb,ha1,ha2,hs1,hs2⟩
   dsimp only at hm hwl hwb ha1 ha2 hs1 hs2 ⊢
   clear hvl hvb hrep
   by_cases h0 : 0 < m
   . clear hE c1 c2 c4 c5
     have c6:=c3 n (by omega)
     have c7:=c3 p (by omega)
     have hms : ∀ (k : Nat) (y : Int),(w.map (D.int .i64)).set k (.int .i64 y)=(w.set k y).map (D.int .i64):=fun k y => by rw [List.map_set]
     have hei : ∀ k,k < w.length->el (w.map (D.int .i64)) k=.int .i64 (w.getD k 0):=fun k h => el_ints h
     simp (disch:=first | omega | decide +kernel) only [go_sem,Qa,Qb,Qc,Qd,Qe,↓reduceIte,reduceCtorEq,Qf,Qg,Qh]
     (repeat' (first | ((first | (refine gsel_split (fun q' => ?_) (fun q' => ?_)<;>(have h':=q')<;>(try simp only [za1,za2,Ba,Bb,za3,ne_eq,za4,za5,za6,Ia,Ib,Ic,Ie,Da,Bc,Bh,Be,za7,za8] at h')<;>try (exfalso; omega)) | (have q':=trivial; first | (refine callX_draw _ (c6) ⟨.inl rfl,.inl rfl,trivial⟩ rfl (by simp [dstB]) (by omega) (by omega) (by omega) ?_; rintro _ atb sdb hatb1 hatb2 hsdb1 hsdb2 ⟨xb,rfl,hxb⟩) | (refine callX_draw _ (c7) ⟨.inl rfl,.inl rfl,trivial⟩ rfl (by simp [dstB]) (by omega) (by omega) (by omega) ?_; rintro _ atc sdc hatc1 hatc2 hsdc1 hsdc2 ⟨xc,rfl,hxc⟩) | refine hE _ _ ret_ne ?_ | refine hE _ _ exit_ne ?_))<;>(try simp (disch:=first | omega | decide +kernel) only [q',curO,curB,D.bytes,hei,hms,hwl,go_sem,Qa,Qb,Qc,Qd,Qe,↓reduceIte,reduceCtorEq,Qf,Qg,Qh])<;>clear q') | refine hN _ ?_ ?_ Wk.kk | with_reducible refine And.intro ?_ ?_ | with_reducible omega | exact ok_ints | exact cells_ints | exact no_mem | with_reducible exact plain_ints | (refine le_maxLen ?_; omega) | (refine za9 ⟨?_,?_⟩) | (simp only [go_sem,Qc,Qb,zb1,zb2,forall_eq]; done)))
     all_goals (first | omega | refine hN ((w.set xb.toNat xc,m - 1),(atc,sdc)) _ (by omega) ⟨by dsimp only; omega,by simp [hwl],fun k => ?_,by dsimp only; omega,by dsimp only; omega,hsdc1,hsdc2⟩ (Wk.kk))
     dsimp only
     rw [getD_set]
     split
     . omega
     . exact hwb k
   . clear hN c1 c2
     have c6:=c5 (w:=w) (by omega) hwb
     have htl:=mod_bd (p:=p) (by omega) hwl
     generalize spT (w.map fun x => x % p)=ts at *
     have c7:=c3 32 (by omega)
     have c8:=c4 n (by omega)
     have c9:=c4 p (by omega)
     clear c3 c4 c5
     simp only [D.ints] at c6
     have hst : ∀ y : Int,0 < ts.length->(ts.map D.tm).set 0 (.agg (List.take 1 (el (ts.map D.tm) 0).cells++[.int .i64 y]++List.drop 2 (el (ts.map D.tm) 0).cells))=(ts.set 0 ((ts.getD 0 (0,0)).1,y)).map D.tm:=fun y h => by
      rw [el_tm h,List.map_set]; rfl
     have hap : ∀ a b : Int,ts.map D.tm++[.agg [.int .i64 a,.int .i64 b]]=(ts++[(a,b)]).map D.tm:=fun a b => by simp
     simp (disch:=first | omega | decide +kernel) only [go_sem,Qa,Qb,Qc,Qd,Qe,↓reduceIte,reduceCtorEq,Qf,Qg,Qh]
     (repeat' (first | ((first | (refine gsel_split (fun q' => ?_) (fun q' => ?_)<;>(have h':=q')<;>(try simp only [za1,za2,Ba,Bb,za3,ne_eq,za4,za5,za6,Ia,Ib,Ic,Ie,Da,Bc,Bh,Be,za7,za8] at h')<;>try (exfalso; omega)) | (have q':=trivial; first | refine callX_new (c6) rfl (by decide) ?_ | refine callY_new (c6) rfl ?_ | (refine callX_draw _ (c7) ⟨.inl rfl,.inl rfl,trivial⟩ rfl (by simp [dstB]) (by omega) (by omega) (by omega) ?_; rintro _ atb sdb hatb1 hatb2 hsdb1 hsdb2 ⟨xb,rfl,hxb⟩) | (refine callX_drawL _ _ (c8) ⟨.inl rfl,.inl rfl,trivial⟩ rfl rfl (by decide) (by simp [dstB]) (by omega) (by omega) (by omega) ?_; rintro _ at1 sd1 hat1 hat2 hsd1 hsd2 ⟨x1,rfl,hx1⟩) | (refine callX_drawL _ _ (c9) ⟨.inl rfl,.inl rfl,trivial⟩ rfl rfl (by decide) (by simp [dstB]) (by omega) (by omega) (by omega) ?_; rintro _ at1 sd1 hat1 hat2 hsd1 hsd2 ⟨x1,rfl,hx1⟩) | refine hE _ _ ret_ne ?_ | refine hE _ _ exit_ne ?_))<;>(try simp (disch:=first | omega | decide +kernel) only [q',curO,curB,D.bytes,e,List.length_map,go_sem,Qa,Qb,Qc,Qd,Qe,↓reduceIte,reduceCtorEq,Qf,Qg,Qh])<;>clear q') | refine hN _ ?_ ?_ Wk.kk | with_reducible refine And.intro ?_ ?_ | with_reducible omega | exact ok_ints | exact cells_ints | exact no_mem | with_reducible exact plain_ints | (refine le_maxLen ?_; omega) | (refine za9 ⟨?_,?_⟩) | (simp only [go_sem,Qc,Qb,zb1,zb2,forall_eq]; done)))
     all_goals (first
      | omega
      | (rw [ok_agg]; simp [D.atom]; done)
      | (rw [hst _ (by omega)]; exact retR_drawT rfl rfl rfl rfl (by decide) (by omega) (by omega) (by omega) (by omega) (by rw [List.length_set]; omega))
      | (rw [hap]; exact retR_drawT rfl rfl rfl rfl (by decide) (by omega) (by omega) (by omega) (by omega) (by rw [List.length_append,List.length_singleton]; omega))
      | exact retR_drawT rfl rfl rfl rfl (by decide) (by omega) (by omega) (by omega) (by omega) (by omega)
      )
theorem l18Two_ok (p v : Int) (a b : List (Int × Int)) (hal : a.length<=1000) (hbl : b.length<=1000) :
 Ctr Tryd.prog 61 [.int .i64 p,.int .i64 v,D.tms a,D.tms b] false (.d (.bool (primeB p v && (isT p (2 ^ v.toNat) a && isT p (2 ^ v.toNat) b)))) []:=by
 cases hpr : primeB p v with
 | false =>
   have c0 : ∀ a : List (Int × Int),Ctr Tryd.prog 73 [.int .i64 p,.int .i64 v,D.tms a] false (.d (.bool false)) []:=fun a => by
    have c1:=l18Prime_ok p v
    rw [hpr] at c1
    refine Ctr.of (n:=57) (rs:=[.tmp 6]) Tryd.func73 rfl rfl Tryd.ntmps73 rfl rfl (by kernel_rfl) Tryd.checked.mixed ?_
    simp (disch:=first | omega | decide +kernel) only [go_sem,Qa,Qb,Qc,Qd,Qe,↓reduceIte,reduceCtorEq,Qf,Qg,Qh]
    (repeat' (first | ((first | (refine gsel_split (fun q' => ?_) (fun q' => ?_)<;>(have h':=q')<;>(try simp only [za1,za2,Ba,Bb,za3,ne_eq,za4,za5,za6,Ia,Ib,Ic,Ie,Da,Bc,Bh,Be,za7,za8] at h')<;>try (exfalso; omega)) | (have q':=trivial; first | refine callX_new (c1) rfl (by decide) ?_ | refine callY_new (c1) rfl ?_ | refine hE _ _ ret_ne ?_ | refine hE _ _ exit_ne ?_))<;>(try simp (disch:=first | omega | decide +kernel) only [q',go_sem,Qa,Qb,Qc,Qd,Qe,↓reduceIte,reduceCtorEq,Qf,Qg,Qh])<;>clear q') | refine hN _ ?_ ?_ Wk.kk | with_reducible refine And.intro ?_ ?_ | with_reducible omega | exact ok_ints | exact cells_ints | exact no_mem | with_reducible exact plain_ints | (refine le_maxLen ?_; omega) | (refine za9 ⟨?_,?_⟩) | (simp only [go_sem,Qc,Qb,zb1,zb2,forall_eq]; done)))
   have c1:=c0 a
   refine Ctr.of (n:=19) (rs:=[.tmp 8]) Tryd.func61 rfl rfl Tryd.ntmps61 rfl rfl (by kernel_rfl) Tryd.checked.mixed ?_
   simp (disch:=first | omega | decide +kernel) only [go_sem,Qa,Qb,Qc,Qd,Qe,↓reduceIte,reduceCtorEq,Qf,Qg,Qh]
   (repeat' (first | ((first | (refine gsel_split (fun q' => ?_) (fun q' => ?_)<;>(have h':=q')<;>(try simp only [za1,za2,Ba,Bb,za3,ne_eq,za4,za5,za6,Ia,Ib,Ic,Ie,Da,Bc,Bh,Be,za7,za8] at h')<;>try (exfalso; omega)) | (have q':=trivial; first | refine callX_new (c1) rfl (by decide) ?_ | refine callY_new (c1) rfl ?_ | refine hE _ _ ret_ne ?_ | refine hE _ _ exit_ne ?_))<;>(try simp (disch:=first | omega | decide +kernel) only [q',go_sem,Qa,Qb,Qc,Qd,Qe,↓reduceIte,reduceCtorEq,Qf,Qg,Qh])<;>clear q') | refine hN _ ?_ ?_ Wk.kk | with_reducible refine And.intro ?_ ?_ | with_reducible omega | exact ok_ints | exact cells_ints | exact no_mem | with_reducible exact plain_ints | (refine le_maxLen ?_; omega) | (refine za9 ⟨?_,?_⟩) | (simp only [go_sem,Qc,Qb,zb1,zb2,forall_eq]; done)))
 | true =>
   obtain ⟨hp,hu0,hu6⟩:=primeB_of hpr
   obtain ⟨z,rfl⟩:=Int.eq_ofNat_of_zero_le hu0
   have c1:=l18Good_ok hp (u:=z) (by omega) (a:=a) (by omega) hpr
   have c2:=l18Good_ok hp (u:=z) (by omega) (a:=b) (by omega) hpr
   rw [Int.toNat_natCast]
   generalize isT p (2 ^ z) a=ta at *
   generalize isT p (2 ^ z) b=tb at *
   cases ta<;>cases tb
   all_goals
    refine Ctr.of (n:=19) (rs:=[.tmp 8]) Tryd.func61 rfl rfl Tryd.ntmps61 rfl rfl (by kernel_rfl) Tryd.checked.mixed ?_
    simp (disch:=first | omega | decide +kernel) only [go_sem,Qa,Qb,Qc,Qd,Qe,↓reduceIte,reduceCtorEq,Qf,Qg,Qh]
    (repeat' (first | ((first | (refine gsel_split (fun q' => ?_) (fun q' => ?_)<;>(have h':=q')<;>(try simp only [za1,za2,Ba,Bb,za3,ne_eq,za4,za5,za6,Ia,Ib,Ic,Ie,Da,Bc,Bh,Be,za7,za8] at h')<;>try (exfalso; omega)) | (have q':=trivial; first | refine callX_new (c1) rfl (by decide) ?_ | refine callY_new (c1) rfl ?_ | refine callX_new (c2) rfl (by decide) ?_ | refine callY_new (c2) rfl ?_ | refine hE _ _ ret_ne ?_ | refine hE _ _ exit_ne ?_))<;>(try simp (disch:=first | omega | decide +kernel) only [q',go_sem,Qa,Qb,Qc,Qd,Qe,↓reduceIte,reduceCtorEq,Qf,Qg,Qh])<;>clear q') | refine hN _ ?_ ?_ Wk.kk | with_reducible refine And.intro ?_ ?_ | with_reducible omega | exact ok_ints | exact cells_ints | exact no_mem | with_reducible exact plain_ints | (refine le_maxLen ?_; omega) | (refine za9 ⟨?_,?_⟩) | (simp only [go_sem,Qc,Qb,zb1,zb2,forall_eq]; done)))
end Abs.Y

namespace Abs.Y
end Abs.Y

namespace Abs.Y
open Go Go.Proofs Abs
set_option maxRecDepth 100000

theorem polys_no' {p v : Int} {list : List (List (Int × Int))} (hpr : primeB p v=false) :
 Ctr Tryd.prog 58 [.int .i64 p,.int .i64 v,.slice (list.map D.tms)] true (.tup [.d (.agg [.int .i64 p,.int .i64 v]),.d (.slice []),.d (.bool false)]) []:=by
 have c1:=Ctr.tupN (ys:=[_,_]) (ringOf_ok p v)
 rw [hpr] at c1
 refine Ctr.of (n:=43) (rs:=[.cell 6 77,.tmp 7,.tmp 8]) Tryd.func58 rfl rfl Tryd.ntmps58 rfl rfl (by kernel_rfl) Tryd.checked.mixed ?_
 simp (disch:=first | omega | decide +kernel) only [go_sem,Qa,Qb,Qc,Qd,Qe,↓reduceIte,reduceCtorEq,Qf,Qg,Qh]
 (repeat' (first | ((first | (refine gsel_split (fun q' => ?_) (fun q' => ?_)<;>(have h':=q')<;>(try simp only [za1,za2,Ba,Bb,za3,ne_eq,za4,za5,za6,Ia,Ib,Ic,Ie,Da,Bc,Bh,Be,za7,za8] at h')<;>try (exfalso; omega)) | (have q':=trivial; first | refine callX_new (c1) rfl (by decide) ?_ | refine callY_new (c1) rfl ?_ | refine hE _ _ ret_ne ?_ | refine hE _ _ exit_ne ?_))<;>(try simp (disch:=first | omega | decide +kernel) only [q',go_sem,Qa,Qb,Qc,Qd,Qe,↓reduceIte,reduceCtorEq,Qf,Qg,Qh])<;>clear q') | refine hN _ ?_ ?_ Wk.kk | with_reducible refine And.intro ?_ ?_ | with_reducible omega | exact ok_ints | exact cells_ints | exact no_mem | with_reducible exact plain_ints | (refine le_maxLen ?_; omega) | (refine za9 ⟨?_,?_⟩) | (simp only [go_sem,Qc,Qb,zb1,zb2,forall_eq]; done)))
 all_goals (first | exact ret_scbdd [7] rfl rfl rfl rfl (by simp only [go_sem]) (by simp only [go_sem,List.length_cons,List.length_nil]) rfl (by simp only [go_sem]))
def nV (v : Int) : Nat:=2 ^ v.toNat
def dnV (v : Int) (a : List (Int × Int)) : List Int:=dnT (nV v) a
def ok1 (p v : Int) (a : List (Int × Int)) : Bool:=primeB p v && isT p (nV v) a
def ok2 (p v : Int) (a b : List (Int × Int)) : Bool:=primeB p v && (isT p (nV v) a && isT p (nV v) b)
theorem polys2_ok (p v : Int) (a b : List (Int × Int)) (hal : a.length<=1000) (hbl : b.length<=1000) :
 Ctr Tryd.prog 58 [.int .i64 p,.int .i64 v,.slice [D.tms a,D.tms b]] true
  (.tup [.d (.agg [.int .i64 p,.int .i64 v]),.d (.slice (if ok2 p v a b then [D.ints (dnV v a),D.ints (dnV v b)] else [])),.d (.bool (ok2 p v a b))]) []:=by
 unfold ok2
 cases hpr : primeB p v with
 | false => exact polys_no' (list:=[a,b]) hpr
 | true =>
   obtain ⟨hp,hu0,hu6⟩:=primeB_of hpr
   obtain ⟨u,rfl⟩:=Int.eq_ofNat_of_zero_le hu0
   have c1:=polys_ok hp (u:=u) (by omega) (list:=[a,b]) hpr (by simp) (fun j => by match j with | 0 => exact Nat.le_trans hal (by decide) | 1 => exact Nat.le_trans hbl (by decide) | _ + 2 => simp)
   simp only [List.all_cons,List.all_nil,Bool.and_true,List.map_cons,List.map_nil] at c1
   exact c1
theorem polys1_ok (p v : Int) (a : List (Int × Int)) (hal : a.length<=1000) :
 Ctr Tryd.prog 58 [.int .i64 p,.int .i64 v,.slice [D.tms a]] true
  (.tup [.d (.agg [.int .i64 p,.int .i64 v]),.d (.slice (if ok1 p v a then [D.ints (dnV v a)] else [])),.d (.bool (ok1 p v a))]) []:=by
 unfold ok1
 cases hpr : primeB p v with
 | false => exact polys_no' (list:=[a]) hpr
 | true =>
   obtain ⟨hp,hu0,hu6⟩:=primeB_of hpr
   obtain ⟨u,rfl⟩:=Int.eq_ofNat_of_zero_le hu0
   have c1:=polys_ok hp (u:=u) (by omega) (list:=[a]) hpr (by simp) (fun j => by match j with | 0 => exact Nat.le_trans hal (by decide) | _ + 1 => simp)
   simp only [List.all_cons,List.all_nil,Bool.and_true,List.map_cons,List.map_nil] at c1
   exact c1
structure Good (p v : Int) (u : Nat) : Prop where
 hp : 1 < p∧p<=5
 hu : u<=6
 hv : v=u
 pr : primeB p u=true
theorem ok2_of {p v : Int} {a b : List (Int × Int)} (h : ok2 p v a b=true) : ∃ u : Nat,Good p v u∧nV v=2 ^ u∧isT p (2 ^ u) a=true∧isT p (2 ^ u) b=true:=by
 rw [ok2,Bc,Bc] at h
 obtain ⟨hp,hu0,hu6⟩:=primeB_of h.1
 obtain ⟨u,rfl⟩:=Int.eq_ofNat_of_zero_le hu0
 exact ⟨u,⟨hp,by omega,rfl,h.1⟩,rfl,h.2.1,h.2.2⟩
theorem ok1_of {p v : Int} {a : List (Int × Int)} (h : ok1 p v a=true) : ∃ u : Nat,Good p v u∧nV v=2 ^ u∧isT p (2 ^ u) a=true:=by
 rw [ok1,Bc] at h
 obtain ⟨hp,hu0,hu6⟩:=primeB_of h.1
 obtain ⟨u,rfl⟩:=Int.eq_ofNat_of_zero_le hu0
 exact ⟨u,⟨hp,by omega,rfl,h.1⟩,rfl,h.2⟩
def mulR (p v : Int) (a b : List (Int × Int)) : List (Int × Int):=if ok2 p v a b then spT (mulD p (nV v) (dnV v a) (dnV v b)) else []
def addR (p v : Int) (a b : List (Int × Int)) : List (Int × Int):=if ok2 p v a b then spT (addD p 1 (dnV v a) (dnV v b)) else []
theorem iMul_ok (p v : Int) (a b : List (Int × Int)) (hal : a.length<=1000) (hbl : b.length<=1000) :
 Ctr Tryd.prog 9 [.int .i64 p,.int .i64 v,D.tms a,D.tms b] true (.tup [.d (D.tms (mulR p v a b)),.d (.bool (ok2 p v a b))]) []:=by
 have c1:=Ctr.eat3 (e:=24) (k:=1) (Ctr.tupN (ys:=[_,_,_]) (polys2_ok p v a b hal hbl))
 unfold mulR
 cases h : ok2 p v a b with
 | false =>
   simp only [h,Bool.false_eq_true,if_false] at c1 ⊢
   refine Ctr.of (n:=34) (rs:=[.tmp 8,.tmp 9]) Tryd.func9 rfl rfl Tryd.ntmps9 rfl rfl (by kernel_rfl) Tryd.checked.mixed ?_
   simp (disch:=first | omega | decide +kernel) only [go_sem,Qa,Qb,Qc,Qd,Qe,↓reduceIte,reduceCtorEq,Qf,Qg,Qh]
   (repeat' (first | ((first | (refine gsel_split (fun q' => ?_) (fun q' => ?_)<;>(have h':=q')<;>(try simp only [za1,za2,Ba,Bb,za3,ne_eq,za4,za5,za6,Ia,Ib,Ic,Ie,Da,Bc,Bh,Be,za7,za8] at h')<;>try (exfalso; omega)) | (have q':=trivial; first | refine callX_mut [18] [18] [18] (c1) ⟨.inl rfl,.inl rfl,.inl rfl,trivial⟩ ⟨rfl,trivial⟩ rfl (by simp [dstB]) ?_ | refine hE _ _ ret_ne ?_ | refine hE _ _ exit_ne ?_))<;>(try simp (disch:=first | omega | decide +kernel) only [q',go_sem,Qa,Qb,Qc,Qd,Qe,↓reduceIte,reduceCtorEq,Qf,Qg,Qh])<;>clear q') | refine hN _ ?_ ?_ Wk.kk | with_reducible refine And.intro ?_ ?_ | with_reducible omega | exact ok_ints | exact cells_ints | exact no_mem | with_reducible exact plain_ints | (refine le_maxLen ?_; omega) | (refine za9 ⟨?_,?_⟩) | (simp only [go_sem,Qc,Qb,zb1,zb2,forall_eq]; done)))
   all_goals (first | exact ret_s2 [8] rfl rfl)
 | true =>
   obtain ⟨u,g,hn,ha,hb⟩:=ok2_of h
   have hp:=g.hp
   have h6:=pow_le6 g.hu
   have va:=Vec.dn (p:=p) (by omega) (isT_tms ha)
   have vb:=Vec.dn (p:=p) (by omega) (isT_tms hb)
   have c2:=Ctr.data1 (times_ok g.hp g.hu va vb)
   have c3:=termsP_ok (v:=mulD p (2 ^ u) (dnT (2 ^ u) a) (dnT (2 ^ u) b)) (by have:=(Vec.mulD (p:=p) (by omega) (2 ^ u) (dnT (2 ^ u) a) (dnT (2 ^ u) b)).1; omega)
   obtain rfl:=g.hv
   simp only [h,if_true,dnV,hn,D.ints] at c1 c2 c3 ⊢
   unfold D.spP at c3
   generalize spT (mulD p (2 ^ u) (dnT (2 ^ u) a) (dnT (2 ^ u) b))=T at *
   generalize mulD p (2 ^ u) (dnT (2 ^ u) a) (dnT (2 ^ u) b)=m at *
   generalize dnT (2 ^ u) a=x at *
   generalize dnT (2 ^ u) b=y at *
   have h0 : el [D.slice (x.map (.int .i64)),D.slice (y.map (.int .i64))] 0=.slice (x.map (.int .i64)):=rfl
   have h1 : el [D.slice (x.map (.int .i64)),D.slice (y.map (.int .i64))] (Int.toNat 1)=.slice (y.map (.int .i64)):=rfl
   refine Ctr.of (n:=34) (rs:=[.tmp 8,.tmp 9]) Tryd.func9 rfl rfl Tryd.ntmps9 rfl rfl (by kernel_rfl) Tryd.checked.mixed ?_
   simp (disch:=first | omega | decide +kernel) only [h0,h1,go_sem,Qa,Qb,Qc,Qd,Qe,↓reduceIte,reduceCtorEq,Qf,Qg,Qh]
   (repeat' (first | ((first | (refine gsel_split (fun q' => ?_) (fun q' => ?_)<;>(have h':=q')<;>(try simp only [za1,za2,Ba,Bb,za3,ne_eq,za4,za5,za6,Ia,Ib,Ic,Ie,Da,Bc,Bh,Be,za7,za8] at h')<;>try (exfalso; omega)) | (have q':=trivial; first | refine callX_mut [18] [18] [18] (c1) ⟨.inl rfl,.inl rfl,.inl rfl,trivial⟩ ⟨rfl,trivial⟩ rfl (by simp [dstB]) ?_ | refine callX_shared (c2) rfl (by decide) ?_ | refine callY_shared (c2) rfl ?_ | refine callX_shared (c3) rfl (by decide) ?_ | refine callY_shared (c3) rfl ?_ | refine hE _ _ ret_ne ?_ | refine hE _ _ exit_ne ?_))<;>(try simp (disch:=first | omega | decide +kernel) only [q',h0,h1,go_sem,Qa,Qb,Qc,Qd,Qe,↓reduceIte,reduceCtorEq,Qf,Qg,Qh])<;>clear q') | refine hN _ ?_ ?_ Wk.kk | with_reducible refine And.intro ?_ ?_ | with_reducible omega | exact ok_ints | exact cells_ints | exact no_mem | with_reducible exact plain_ints | (refine le_maxLen ?_; omega) | (refine za9 ⟨?_,?_⟩) | (simp only [go_sem,Qc,Qb,zb1,zb2,forall_eq]; done)))
   all_goals (first | exact ret_s2 [] rfl rfl)
theorem iAdd_ok (p v : Int) (a b : List (Int × Int)) (hal : a.length<=1000) (hbl : b.length<=1000) :
 Ctr Tryd.prog 12 [.int .i64 p,.int .i64 v,D.tms a,D.tms b] true (.tup [.d (D.tms (addR p v a b)),.d (.bool (ok2 p v a b))]) []:=by
 have c1:=Ctr.eat3 (e:=24) (k:=1) (Ctr.tupN (ys:=[_,_,_]) (polys2_ok p v a b hal hbl))
 unfold addR
 cases h : ok2 p v a b with
 | false =>
   simp only [h,Bool.false_eq_true,if_false] at c1 ⊢
   refine Ctr.of (n:=34) (rs:=[.tmp 8,.tmp 9]) Tryd.func12 rfl rfl Tryd.ntmps12 rfl rfl (by kernel_rfl) Tryd.checked.mixed ?_
   simp (disch:=first | omega | decide +kernel) only [go_sem,Qa,Qb,Qc,Qd,Qe,↓reduceIte,reduceCtorEq,Qf,Qg,Qh]
   (repeat' (first | ((first | (refine gsel_split (fun q' => ?_) (fun q' => ?_)<;>(have h':=q')<;>(try simp only [za1,za2,Ba,Bb,za3,ne_eq,za4,za5,za6,Ia,Ib,Ic,Ie,Da,Bc,Bh,Be,za7,za8] at h')<;>try (exfalso; omega)) | (have q':=trivial; first | refine callX_mut [18] [18] [18] (c1) ⟨.inl rfl,.inl rfl,.inl rfl,trivial⟩ ⟨rfl,trivial⟩ rfl (by simp [dstB]) ?_ | refine hE _ _ ret_ne ?_ | refine hE _ _ exit_ne ?_))<;>(try simp (disch:=first | omega | decide +kernel) only [q',go_sem,Qa,Qb,Qc,Qd,Qe,↓reduceIte,reduceCtorEq,Qf,Qg,Qh])<;>clear q') | refine hN _ ?_ ?_ Wk.kk | with_reducible refine And.intro ?_ ?_ | with_reducible omega | exact ok_ints | exact cells_ints | exact no_mem | with_reducible exact plain_ints | (refine le_maxLen ?_; omega) | (refine za9 ⟨?_,?_⟩) | (simp only [go_sem,Qc,Qb,zb1,zb2,forall_eq]; done)))
   all_goals (first | exact ret_s2 [8] rfl rfl)
 | true =>
   obtain ⟨u,g,hn,ha,hb⟩:=ok2_of h
   have hp:=g.hp
   have h6:=pow_le6 g.hu
   have va:=Vec.dn (p:=p) (by omega) (isT_tms ha)
   have vb:=Vec.dn (p:=p) (by omega) (isT_tms hb)
   have c2:=Ctr.data1 (plus_ok g.hp g.hu va vb (k:=1) (by omega))
   have c3:=termsP_ok (v:=addD p 1 (dnT (2 ^ u) a) (dnT (2 ^ u) b)) (by have:=(Vec.addD (p:=p) (k:=1) (by omega) va.1 vb.1).1; omega)
   obtain rfl:=g.hv
   simp only [h,if_true,dnV,hn,D.ints] at c1 c2 c3 ⊢
   unfold D.spP at c3
   generalize spT (addD p 1 (dnT (2 ^ u) a) (dnT (2 ^ u) b))=T at *
   generalize addD p 1 (dnT (2 ^ u) a) (dnT (2 ^ u) b)=m at *
   generalize dnT (2 ^ u) a=x at *
   generalize dnT (2 ^ u) b=y at *
   have h0 : el [D.slice (x.map (.int .i64)),D.slice (y.map (.int .i64))] 0=.slice (x.map (.int .i64)):=rfl
   have h1 : el [D.slice (x.map (.int .i64)),D.slice (y.map (.int .i64))] (Int.toNat 1)=.slice (y.map (.int .i64)):=rfl
   refine Ctr.of (n:=34) (rs:=[.tmp 8,.tmp 9]) Tryd.func12 rfl rfl Tryd.ntmps12 rfl rfl (by kernel_rfl) Tryd.checked.mixed ?_
   simp (disch:=first | omega | decide +kernel) only [h0,h1,go_sem,Qa,Qb,Qc,Qd,Qe,↓reduceIte,reduceCtorEq,Qf,Qg,Qh]
   (repeat' (first | ((first | (refine gsel_split (fun q' => ?_) (fun q' => ?_)<;>(have h':=q')<;>(try simp only [za1,za2,Ba,Bb,za3,ne_eq,za4,za5,za6,Ia,Ib,Ic,Ie,Da,Bc,Bh,Be,za7,za8] at h')<;>try (exfalso; omega)) | (have q':=trivial; first | refine callX_mut [18] [18] [18] (c1) ⟨.inl rfl,.inl rfl,.inl rfl,trivial⟩ ⟨rfl,trivial⟩ rfl (by simp [dstB]) ?_ | refine callX_shared (c2) rfl (by decide) ?_ | refine callY_shared (c2) rfl ?_ | refine callX_shared (c3) rfl (by decide) ?_ | refine callY_shared (c3) rfl ?_ | refine hE _ _ ret_ne ?_ | refine hE _ _ exit_ne ?_))<;>(try simp (disch:=first | omega | decide +kernel) only [q',h0,h1,go_sem,Qa,Qb,Qc,Qd,Qe,↓reduceIte,reduceCtorEq,Qf,Qg,Qh])<;>clear q') | refine hN _ ?_ ?_ Wk.kk | with_reducible refine And.intro ?_ ?_ | with_reducible omega | exact ok_ints | exact cells_ints | exact no_mem | with_reducible exact plain_ints | (refine le_maxLen ?_; omega) | (refine za9 ⟨?_,?_⟩) | (simp only [go_sem,Qc,Qb,zb1,zb2,forall_eq]; done)))
   all_goals (first | exact ret_s2 [] rfl rfl)
theorem sMul_ok (p v : Int) (a b : List (Int × Int)) (hal : a.length<=1000) (hbl : b.length<=1000) :
 Ctr Tryd.prog 10 [.int .i64 p,.int .i64 v,D.tms a,D.tms b] true (.tup [.d (D.tms (mulR p v a b)),.d (.bool (ok2 p v a b))]) []:=by
 have c1 : Ctr Tryd.prog 61 [.int .i64 p,.int .i64 v,D.tms a,D.tms b] false (.d (.bool (ok2 p v a b))) []:=l18Two_ok p v a b hal hbl
 unfold mulR
 cases h : ok2 p v a b with
 | false =>
   simp only [h,Bool.false_eq_true,if_false] at c1 ⊢
   refine Ctr.of (n:=22) (rs:=[.tmp 8,.tmp 9]) Tryd.func10 rfl rfl Tryd.ntmps10 rfl rfl (by kernel_rfl) Tryd.checked.mixed ?_
   simp (disch:=first | omega | decide +kernel) only [go_sem,Qa,Qb,Qc,Qd,Qe,↓reduceIte,reduceCtorEq,Qf,Qg,Qh]
   (repeat' (first | ((first | (refine gsel_split (fun q' => ?_) (fun q' => ?_)<;>(have h':=q')<;>(try simp only [za1,za2,Ba,Bb,za3,ne_eq,za4,za5,za6,Ia,Ib,Ic,Ie,Da,Bc,Bh,Be,za7,za8] at h')<;>try (exfalso; omega)) | (have q':=trivial; first | refine callX_new (c1) rfl (by decide) ?_ | refine callY_new (c1) rfl ?_ | refine hE _ _ ret_ne ?_ | refine hE _ _ exit_ne ?_))<;>(try simp (disch:=first | omega | decide +kernel) only [q',go_sem,Qa,Qb,Qc,Qd,Qe,↓reduceIte,reduceCtorEq,Qf,Qg,Qh])<;>clear q') | refine hN _ ?_ ?_ Wk.kk | with_reducible refine And.intro ?_ ?_ | with_reducible omega | exact ok_ints | exact cells_ints | exact no_mem | with_reducible exact plain_ints | (refine le_maxLen ?_; omega) | (refine za9 ⟨?_,?_⟩) | (simp only [go_sem,Qc,Qb,zb1,zb2,forall_eq]; done)))
   all_goals (first | exact ret_s2 [16] rfl rfl)
 | true =>
   obtain ⟨u,g,hn,ha,hb⟩:=ok2_of h
   have hp:=g.hp
   have c2:=l18Mul_ok g.hp g.hu (a:=a) (b:=b) (by omega) (by omega) (isT_tms ha) (isT_tms hb)
   rw [← sp_dn ha,← sp_dn hb,mul_eq (by omega),sp_dn ha,sp_dn hb] at c2
   have c2:=Ctr.data1 c2
   obtain rfl:=g.hv
   simp only [h,if_true,dnV,hn] at c1 c2 ⊢
   generalize spT (mulD p (2 ^ u) (dnT (2 ^ u) a) (dnT (2 ^ u) b))=T at *
   refine Ctr.of (n:=22) (rs:=[.tmp 8,.tmp 9]) Tryd.func10 rfl rfl Tryd.ntmps10 rfl rfl (by kernel_rfl) Tryd.checked.mixed ?_
   simp (disch:=first | omega | decide +kernel) only [go_sem,Qa,Qb,Qc,Qd,Qe,↓reduceIte,reduceCtorEq,Qf,Qg,Qh]
   (repeat' (first | ((first | (refine gsel_split (fun q' => ?_) (fun q' => ?_)<;>(have h':=q')<;>(try simp only [za1,za2,Ba,Bb,za3,ne_eq,za4,za5,za6,Ia,Ib,Ic,Ie,Da,Bc,Bh,Be,za7,za8] at h')<;>try (exfalso; omega)) | (have q':=trivial; first | refine callX_new (c1) rfl (by decide) ?_ | refine callY_new (c1) rfl ?_ | refine callX_shared (c2) rfl (by decide) ?_ | refine callY_shared (c2) rfl ?_ | refine hE _ _ ret_ne ?_ | refine hE _ _ exit_ne ?_))<;>(try simp (disch:=first | omega | decide +kernel) only [q',go_sem,Qa,Qb,Qc,Qd,Qe,↓reduceIte,reduceCtorEq,Qf,Qg,Qh])<;>clear q') | refine hN _ ?_ ?_ Wk.kk | with_reducible refine And.intro ?_ ?_ | with_reducible omega | exact ok_ints | exact cells_ints | exact no_mem | with_reducible exact plain_ints | (refine le_maxLen ?_; omega) | (refine za9 ⟨?_,?_⟩) | (simp only [go_sem,Qc,Qb,zb1,zb2,forall_eq]; done)))
   all_goals (first | exact ret_s2 [] rfl rfl)
theorem sAdd_ok (p v : Int) (a b : List (Int × Int)) (hal : a.length<=1000) (hbl : b.length<=1000) :
 Ctr Tryd.prog 13 [.int .i64 p,.int .i64 v,D.tms a,D.tms b] true (.tup [.d (D.tms (addR p v a b)),.d (.bool (ok2 p v a b))]) []:=by
 have c1 : Ctr Tryd.prog 61 [.int .i64 p,.int .i64 v,D.tms a,D.tms b] false (.d (.bool (ok2 p v a b))) []:=l18Two_ok p v a b hal hbl
 unfold addR
 cases h : ok2 p v a b with
 | false =>
   simp only [h,Bool.false_eq_true,if_false] at c1 ⊢
   refine Ctr.of (n:=22) (rs:=[.tmp 8,.tmp 9]) Tryd.func13 rfl rfl Tryd.ntmps13 rfl rfl (by kernel_rfl) Tryd.checked.mixed ?_
   simp (disch:=first | omega | decide +kernel) only [go_sem,Qa,Qb,Qc,Qd,Qe,↓reduceIte,reduceCtorEq,Qf,Qg,Qh]
   (repeat' (first | ((first | (refine gsel_split (fun q' => ?_) (fun q' => ?_)<;>(have h':=q')<;>(try simp only [za1,za2,Ba,Bb,za3,ne_eq,za4,za5,za6,Ia,Ib,Ic,Ie,Da,Bc,Bh,Be,za7,za8] at h')<;>try (exfalso; omega)) | (have q':=trivial; first | refine callX_new (c1) rfl (by decide) ?_ | refine callY_new (c1) rfl ?_ | refine hE _ _ ret_ne ?_ | refine hE _ _ exit_ne ?_))<;>(try simp (disch:=first | omega | decide +kernel) only [q',go_sem,Qa,Qb,Qc,Qd,Qe,↓reduceIte,reduceCtorEq,Qf,Qg,Qh])<;>clear q') | refine hN _ ?_ ?_ Wk.kk | with_reducible refine And.intro ?_ ?_ | with_reducible omega | exact ok_ints | exact cells_ints | exact no_mem | with_reducible exact plain_ints | (refine le_maxLen ?_; omega) | (refine za9 ⟨?_,?_⟩) | (simp only [go_sem,Qc,Qb,zb1,zb2,forall_eq]; done)))
   all_goals (first | exact ret_s2 [16] rfl rfl)
 | true =>
   obtain ⟨u,g,hn,ha,hb⟩:=ok2_of h
   have hp:=g.hp
   have c2:=Ctr.data1 (l18AddK_ok g.hp g.hu (a:=a) (b:=b) (k:=1) (by omega) (by omega) (by omega) (isT_tms ha) (isT_tms hb))
   obtain rfl:=g.hv
   simp only [h,if_true,dnV,hn] at c1 c2 ⊢
   generalize spT (addD p 1 (dnT (2 ^ u) a) (dnT (2 ^ u) b))=T at *
   refine Ctr.of (n:=22) (rs:=[.tmp 8,.tmp 9]) Tryd.func13 rfl rfl Tryd.ntmps13 rfl rfl (by kernel_rfl) Tryd.checked.mixed ?_
   simp (disch:=first | omega | decide +kernel) only [go_sem,Qa,Qb,Qc,Qd,Qe,↓reduceIte,reduceCtorEq,Qf,Qg,Qh]
   (repeat' (first | ((first | (refine gsel_split (fun q' => ?_) (fun q' => ?_)<;>(have h':=q')<;>(try simp only [za1,za2,Ba,Bb,za3,ne_eq,za4,za5,za6,Ia,Ib,Ic,Ie,Da,Bc,Bh,Be,za7,za8] at h')<;>try (exfalso; omega)) | (have q':=trivial; first | refine callX_new (c1) rfl (by decide) ?_ | refine callY_new (c1) rfl ?_ | refine callX_shared (c2) rfl (by decide) ?_ | refine callY_shared (c2) rfl ?_ | refine hE _ _ ret_ne ?_ | refine hE _ _ exit_ne ?_))<;>(try simp (disch:=first | omega | decide +kernel) only [q',go_sem,Qa,Qb,Qc,Qd,Qe,↓reduceIte,reduceCtorEq,Qf,Qg,Qh])<;>clear q') | refine hN _ ?_ ?_ Wk.kk | with_reducible refine And.intro ?_ ?_ | with_reducible omega | exact ok_ints | exact cells_ints | exact no_mem | with_reducible exact plain_ints | (refine le_maxLen ?_; omega) | (refine za9 ⟨?_,?_⟩) | (simp only [go_sem,Qc,Qb,zb1,zb2,forall_eq]; done)))
   all_goals (first | exact ret_s2 [] rfl rfl)
end Abs.Y
