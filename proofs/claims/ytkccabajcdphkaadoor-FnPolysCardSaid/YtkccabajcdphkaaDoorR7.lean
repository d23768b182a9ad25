/- What functions of this program compute, over plain data. No condition. -/
import Derived.Test.YtkccabajcdphkaaDoorR1
import Derived.Test.YtkccabajcdphkaaDoorCP1
import Derived.Test.YtkccabajcdphkaaDoorG4
set_option linter.all false
open Nat renaming reduceEqDiff -> Qa, reduceLT -> Qb, reduceAdd -> Qc, reduceMul -> Qd, reduceSub -> Qe, reduceLeDiff -> Qf, reduceSubDiff -> Qg, reduceBEq -> Qh
open Bool renaming not_eq_true' -> Ba, not_eq_false' -> Bb, and_eq_true -> Bc, or_eq_true -> Bh, or_eq_false_iff -> Be
open Int renaming ofNat_lt -> Ia, ofNat_le -> Ib, not_lt -> Ic, not_le -> Ie
open Decidable renaming not_not -> Da
namespace Abs.Y
open Go Go.Proofs Abs
set_option maxRecDepth 100000
set_option maxHeartbeats 1000000

@[reducible] def QB : AV->Prop:=fun r => ∃ b : Bool,r=.d (.bool b)∧True
theorem pick_fin {n y : Int} (h : 1 < n) (h0 : 0<=y) (h1 : y<=65535) : (n<=1->y % n=0)∧0<=y % n∧(1 < n->y % n < n)∧y % n<=65535:=by
 have b1:=Int.emod_nonneg y (b:=n) (by omega)
 have b2:=Int.emod_lt_of_pos y (b:=n) (by omega)
 have b3:=Int.mul_ediv_add_emod y n
 have b4:=Int.mul_nonneg (a:=n) (b:=y / n) (by omega) (Int.ediv_nonneg h0 (by omega))
 generalize y % n=m at *
 generalize n * (y / n)=z at *
 omega
theorem pick_ok {code : List Int} (hc : CodeOK code) (n : Int) (hn : n<=9223372036854775807∧-9223372036854775808<=n) :
 Draws 75 [.d (.int .i64 n)] 2 (QI fun x => (n<=1->x=0)∧0<=x∧(1 < n->x < n)∧x<=65535) code:=fun at_ seed h1 h2 h3 => by
 have c1:=next_draws hc
 have e1 : ∀ x : Int,0<=x->x.tmod n=x % n:=fun x hx => Int.tmod_eq_emod_of_nonneg hx
 refine CtrR.of (n:=20) (rs:=[.tmp 4]) Tryd.func75 rfl rfl Tryd.ntmps75 rfl rfl (by kernel_rfl) Tryd.checked.mixed ?_; intro u
 simp (disch:=first | omega | decide +kernel) only [curO,curB,D.bytes,go_sem,Qa,Qb,Qc,Qd,Qe,↓reduceIte,reduceCtorEq,Qf,Qg,Qh]
 (repeat' (first | ((first | (refine gsel_split (fun q' => ?_) (fun q' => ?_)<;>(have h':=q')<;>(try simp only [za1,za2,Ba,Bb,za3,ne_eq,za4,za5,za6,Ia,Ib,Ic,Ie,Da,Bc,Bh,Be,za7,za8] at h')<;>try (exfalso; omega)) | (have q':=trivial; first | (refine callX_draw _ (c1) ⟨.inl rfl,trivial⟩ rfl (by simp [dstB]) (by omega) (by omega) (by omega) ?_; rintro _ at1 sd1 hat11 hat12 hsd11 hsd12 ⟨x1,rfl,hx1⟩) | refine hE _ _ ret_ne ?_ | refine hE _ _ exit_ne ?_))<;>(try simp (disch:=first | omega | decide +kernel) only [q',curO,curB,D.bytes,e1,go_sem,Qa,Qb,Qc,Qd,Qe,↓reduceIte,reduceCtorEq,Qf,Qg,Qh])<;>clear q') | with_reducible refine And.intro ?_ ?_ | with_reducible omega | (refine le_maxLen ?_; omega)))
 all_goals (first | omega | (refine retR_draw rfl rfl rfl (by omega) (by omega) (by omega) (by omega) ⟨_,rfl,?_⟩))
 all_goals (first | exact pick_fin (by omega) (by omega) (by omega) | (show _∧_; refine ⟨fun _ => rfl,?_,?_,?_⟩<;>omega))
theorem one_ok {code : List Int} (hc : CodeOK code) (n : Int) (hn : n<=9223372036854775807∧-9223372036854775808<=n) :
 Draws 106 [.d (.int .i64 n)] 2 QB code:=fun at_ seed h1 h2 h3 => by
 have c1:=pick_ok hc n hn
 refine CtrR.of (n:=9) (rs:=[.tmp 4]) Tryd.func106 rfl rfl Tryd.ntmps106 rfl rfl (by kernel_rfl) Tryd.checked.mixed ?_; intro u
 simp (disch:=first | omega | decide +kernel) only [curO,curB,D.bytes,go_sem,Qa,Qb,Qc,Qd,Qe,↓reduceIte,reduceCtorEq,Qf,Qg,Qh]
 (repeat' (first | ((first | (refine gsel_split (fun q' => ?_) (fun q' => ?_)<;>(have h':=q')<;>(try simp only [za1,za2,Ba,Bb,za3,ne_eq,za4,za5,za6,Ia,Ib,Ic,Ie,Da,Bc,Bh,Be,za7,za8] at h')<;>try (exfalso; omega)) | (have q':=trivial; first | (refine callX_draw _ (c1) ⟨.inl rfl,.inl rfl,trivial⟩ rfl (by simp [dstB]) (by omega) (by omega) (by omega) ?_; rintro _ at1 sd1 hat11 hat12 hsd11 hsd12 ⟨x1,rfl,hx1⟩) | refine hE _ _ ret_ne ?_ | refine hE _ _ exit_ne ?_))<;>(try simp (disch:=first | omega | decide +kernel) only [q',curO,curB,D.bytes,go_sem,Qa,Qb,Qc,Qd,Qe,↓reduceIte,reduceCtorEq,Qf,Qg,Qh])<;>clear q') | with_reducible refine And.intro ?_ ?_ | with_reducible omega | (refine le_maxLen ?_; omega)))
 all_goals (first | omega | (exact retR_draw rfl rfl rfl (by omega) (by omega) (by omega) (by omega) ⟨_,rfl,trivial⟩))
theorem among_ok {code : List Int} (hc : CodeOK code) (l : List Int) (hl : 1<=l.length∧l.length<=60000) :
 Draws 70 [.d (D.ints l)] 2 (QI fun x => x ∈ l) code:=fun at_ seed h1 h2 h3 => by
 have c1:=pick_ok hc (l.length : Nat) (by omega)
 have hei : ∀ x : Int,0<=x->x < l.length->el (l.map (D.int .i64)) x.toNat=.int .i64 (l.getD x.toNat 0):=fun x hx hl => el_ints (by omega)
 have hm : ∀ x : Int,0<=x->x < l.length->l.getD x.toNat 0 ∈ l:=fun x hx hl => by
  have : x.toNat < l.length:=by omega
  simp [List.getD_eq_getElem?_getD,this]
 refine CtrR.of (n:=12) (rs:=[.tmp 4]) Tryd.func70 rfl rfl Tryd.ntmps70 rfl rfl (by kernel_rfl) Tryd.checked.mixed ?_; intro u
 simp (disch:=first | omega | decide +kernel) only [curO,curB,D.bytes,D.ints,go_sem,Qa,Qb,Qc,Qd,Qe,↓reduceIte,reduceCtorEq,Qf,Qg,Qh]
 (repeat' (first | ((first | (refine gsel_split (fun q' => ?_) (fun q' => ?_)<;>(have h':=q')<;>(try simp only [za1,za2,Ba,Bb,za3,ne_eq,za4,za5,za6,Ia,Ib,Ic,Ie,Da,Bc,Bh,Be,za7,za8] at h')<;>try (exfalso; omega)) | (have q':=trivial; first | (refine callX_draw _ (c1) ⟨.inl rfl,.inl rfl,trivial⟩ rfl (by simp [dstB]) (by omega) (by omega) (by omega) ?_; rintro _ at1 sd1 hat11 hat12 hsd11 hsd12 ⟨x1,rfl,hx1⟩) | refine hE _ _ ret_ne ?_ | refine hE _ _ exit_ne ?_))<;>(try simp (disch:=first | omega | decide +kernel) only [q',curO,curB,D.bytes,D.ints,hei,go_sem,Qa,Qb,Qc,Qd,Qe,↓reduceIte,reduceCtorEq,Qf,Qg,Qh])<;>clear q') | with_reducible refine And.intro ?_ ?_ | with_reducible omega | (refine le_maxLen ?_; omega)))
 all_goals (first | omega | (refine retR_draw rfl rfl rfl (by omega) (by omega) (by omega) (by omega) ⟨_,rfl,?_⟩))
 all_goals (first | exact hm _ (by omega) (by omega))
end Abs.Y

namespace Abs.Y
open Go Go.Proofs Abs
set_option maxRecDepth 100000
set_option maxHeartbeats 1000000

def DrawsL (f : FuncId) (xs : List AV) (k : Nat) (o : AO) (Q : AV->Prop) (code : List Int) : Prop:=∀ at_ seed,at_ + k<=1099511627776->0<=seed->seed < 18446744073709551616 ->
 CtrR Tryd.prog f (.p 0 0 :: xs) [(0,curB code at_ seed),(1,o)] [0,1] true fun r oo => ∃ at' seed',at_<=at'∧at'<=at_ + k∧0<=seed'∧seed' < 18446744073709551616∧oo=[(0,curB code at' seed'),(1,o)]∧Q r
theorem callX_drawL {N f cavs st dst K} (J L : Nat) {xs k o Q code at_ seed} (hs : DrawsL f xs k o Q code) (hp : passM Tryd.prog (delL [J,L] st.o) (nth [J,L]) true cavs (.p 0 0 :: xs)) (ho : lkn J st.o=some ((curB code at_ seed).ren (nth [J,L])))
 (hl : lkn L st.o=some (o.ren (nth [J,L]))) (hJL : J ≠ L) (hd : dstB N dst) (h1 : at_ + k<=1099511627776) (h2 : 0<=seed) (h3 : seed < 18446744073709551616)
 (hK : ∀ r at' seed',at_<=at'->at'<=at_ + k->0<=seed'->seed' < 18446744073709551616->Q r->K (impM st dst (nth [J,L]) [] r [(0,curB code at' seed'),(1,o)])) : callX Tryd.prog N f cavs dst K st :=
 callX_rel [J,L] [J,L] [] (hs at_ seed h1 h2 h3) hp ⟨ho,hl,trivial⟩ (by simp [namesI,keysO,nth,hJL,Ne.symm hJL]) hd fun r oo ⟨at',seed',a1,a2,a3,a4,e,hQ⟩ => by
  subst e; exact ⟨by simp [namesOK,keysO,nth,hJL,Ne.symm hJL],hK r at' seed' a1 a2 a3 a4 hQ⟩
theorem retM_ds2 {P : Program} {t : Nat} {st : St} {x : D} {u : Nat->Value} {o0 o1 : AO} (h : lk t st.s=some (.d x)) (h0 : lk 0 st.o=some o0) (h1 : lk 1 st.o=some o1) (k0 : lk 1000000000 st.s=some (.hdr 0 (u 0))) (k1 : lk 1000000001 st.s=some (.hdr 1 (u 1)))
 (r0 : o0.ren (fun j => j)=o0) (r1 : o1.ren (fun j => j)=o1) : retM P [.tmp t] u [0,1] true (.d x) [(0,o0),(1,o1)] .ret st:=by
 simp only [retM,resV,h]
 exact ⟨trivial,⟨fun j => j,rfl,by simpa [r0,r1] using ⟨h0,h1⟩,by simp,⟨rfl,k0,⟨rfl,k1,trivial⟩⟩⟩,.inl trivial⟩
theorem retR_drawL {t : Nat} {u : Nat->Value} {st : St} {code : List Int} {at_ k : Nat} {Q : AV->Prop} {o : AO} {at' : Nat} {seed' : Int} {x : D} (h : lk t st.s=some (.d x)) (ho : lk 0 st.o=some (curB code at' seed')) (hl : lk 1 st.o=some o) (hk : lk 1000000000 st.s=some (.hdr 0 (u 0))) (hk1 : lk 1000000001 st.s=some (.hdr 1 (u 1)))
 (hr : o.ren (fun j => j)=o) (h1 : at_<=at') (h2 : at'<=at_ + k) (h3 : 0<=seed') (h4 : seed' < 18446744073709551616) (hQ : Q (.d x)) :
 retR Tryd.prog [.tmp t] u [0,1] true (fun r oo => ∃ at' seed',at_<=at'∧at'<=at_ + k∧0<=seed'∧seed' < 18446744073709551616∧oo=[(0,curB code at' seed'),(1,o)]∧Q r) .ret st :=
 ⟨_,_,⟨at',seed',h1,h2,h3,h4,rfl,hQ⟩,retM_ds2 h ho hl hk hk1 rfl hr⟩
theorem amongL_ok {code : List Int} (hc : CodeOK code) (l : List Int) (hl : 1<=l.length∧l.length<=60000) :
 DrawsL 70 [.sl 1] 2 (.arr 3 1 (l.map (.int .i64))) (QI fun x => x ∈ l) code:=fun at_ seed h1 h2 h3 => by
 have c1:=pick_ok hc (l.length : Nat) (by omega)
 have hei : ∀ x : Int,0<=x->x < l.length->el (l.map (D.int .i64)) x.toNat=.int .i64 (l.getD x.toNat 0):=fun x hx hl => el_ints (by omega)
 have hm : ∀ x : Int,0<=x->x < l.length->l.getD x.toNat 0 ∈ l:=fun x hx hl => by
  have : x.toNat < l.length:=by omega
  simp [List.getD_eq_getElem?_getD,this]
 refine CtrR.of (n:=12) (rs:=[.tmp 4]) Tryd.func70 rfl rfl Tryd.ntmps70 rfl rfl (by kernel_rfl) Tryd.checked.mixed ?_; intro u
 simp (disch:=first | omega | decide +kernel) only [curO,curB,D.bytes,D.ints,go_sem,Qa,Qb,Qc,Qd,Qe,↓reduceIte,reduceCtorEq,Qf,Qg,Qh]
 (repeat' (first | ((first | (refine gsel_split (fun q' => ?_) (fun q' => ?_)<;>(have h':=q')<;>(try simp only [za1,za2,Ba,Bb,za3,ne_eq,za4,za5,za6,Ia,Ib,Ic,Ie,Da,Bc,Bh,Be,za7,za8] at h')<;>try (exfalso; omega)) | (have q':=trivial; first | (refine callX_draw _ (c1) ⟨.inl rfl,.inl rfl,trivial⟩ rfl (by simp [dstB]) (by omega) (by omega) (by omega) ?_; rintro _ at1 sd1 hat11 hat12 hsd11 hsd12 ⟨x1,rfl,hx1⟩) | refine hE _ _ ret_ne ?_ | refine hE _ _ exit_ne ?_))<;>(try simp (disch:=first | omega | decide +kernel) only [q',curO,curB,D.bytes,D.ints,hei,go_sem,Qa,Qb,Qc,Qd,Qe,↓reduceIte,reduceCtorEq,Qf,Qg,Qh])<;>clear q') | with_reducible refine And.intro ?_ ?_ | with_reducible omega | (refine le_maxLen ?_; omega)))
 all_goals (first | omega | (exact retR_drawL rfl rfl rfl rfl rfl rfl (by omega) (by omega) (by omega) (by omega) ⟨_,rfl,hm _ (by omega) (by omega)⟩))
theorem amongB_ok {code : List Int} (hc : CodeOK code) (l : List Int) (lo hi : Int) (hl : 1<=l.length∧l.length<=60000) (hb : ∀ x ∈ l,lo<=x∧x<=hi) :
 DrawsL 70 [.sl 1] 2 (.arr 3 1 (l.map (.int .i64))) (QI fun x => lo<=x∧x<=hi) code:=fun at_ seed h1 h2 h3 =>
 (amongL_ok hc l hl at_ seed h1 h2 h3).mono fun _ _ ⟨a,s,e1,e2,e3,e4,e5,x,e6,e7⟩ => ⟨a,s,e1,e2,e3,e4,e5,x,e6,hb x e7⟩
theorem amongD_ok {code : List Int} (hc : CodeOK code) (l : List Int) (lo hi : Int) (hl : 1<=l.length∧l.length<=60000) (hb : ∀ x ∈ l,lo<=x∧x<=hi) :
 Draws 70 [.d (D.ints l)] 2 (QI fun x => lo<=x∧x<=hi) code:=fun at_ seed h1 h2 h3 =>
 (among_ok hc l hl at_ seed h1 h2 h3).mono fun _ _ ⟨a,s,e1,e2,e3,e4,e5,x,e6,e7⟩ => ⟨a,s,e1,e2,e3,e4,e5,x,e6,hb x e7⟩
theorem lit_ok {code : List Int} (hc : CodeOK code) (vars : Int) (hv : -1000000<=vars∧vars<=1000000) :
 Draws 84 [.d (.int .i64 vars)] 8 (QI fun x => -1000001<=x∧x<=1000001) code:=fun at_ seed h1 h2 h3 => by
 have c1:=one_ok hc 40 (by omega)
 have c2:=one_ok hc 2 (by omega)
 have c3:=pick_ok hc vars (by omega)
 have c4:=amongB_ok hc [0,vars + 1,0 - vars - 1] (-1000001) 1000001 (by simp) (by simp; omega)
 simp only [List.map_cons,List.map_nil] at c4
 refine CtrR.of (n:=29) (rs:=[.tmp 4]) Tryd.func84 rfl rfl Tryd.ntmps84 rfl rfl (by kernel_rfl) Tryd.checked.mixed ?_; intro u
 simp (disch:=first | omega | decide +kernel) only [curO,curB,D.bytes,go_sem,Qa,Qb,Qc,Qd,Qe,↓reduceIte,reduceCtorEq,Qf,Qg,Qh]
 (repeat' (first | ((first | (refine gsel_split (fun q' => ?_) (fun q' => ?_)<;>(have h':=q')<;>(try simp only [za1,za2,Ba,Bb,za3,ne_eq,za4,za5,za6,Ia,Ib,Ic,Ie,Da,Bc,Bh,Be,za7,za8] at h')<;>try (exfalso; omega)) | (have q':=trivial; first | (refine callX_draw _ (c1) ⟨.inl rfl,.inl rfl,trivial⟩ rfl (by simp [dstB]) (by omega) (by omega) (by omega) ?_; rintro _ at1 sd1 hat11 hat12 hsd11 hsd12 ⟨x1,rfl,hx1⟩) | (refine callX_draw _ (c2) ⟨.inl rfl,.inl rfl,trivial⟩ rfl (by simp [dstB]) (by omega) (by omega) (by omega) ?_; rintro _ at1 sd1 hat11 hat12 hsd11 hsd12 ⟨x1,rfl,hx1⟩) | (refine callX_draw _ (c3) ⟨.inl rfl,.inl rfl,trivial⟩ rfl (by simp [dstB]) (by omega) (by omega) (by omega) ?_; rintro _ at1 sd1 hat11 hat12 hsd11 hsd12 ⟨x1,rfl,hx1⟩) | (refine callX_drawL _ _ (c4) ⟨.inl rfl,.inl rfl,trivial⟩ rfl rfl (by decide) (by simp [dstB]) (by omega) (by omega) (by omega) ?_; rintro _ at1 sd1 hat1 hat2 hsd1 hsd2 ⟨x1,rfl,hx1⟩) | refine hE _ _ ret_ne ?_ | refine hE _ _ exit_ne ?_))<;>(try simp (disch:=first | omega | decide +kernel) only [q',curO,curB,D.bytes,go_sem,Qa,Qb,Qc,Qd,Qe,↓reduceIte,reduceCtorEq,Qf,Qg,Qh])<;>clear q') | refine hN _ ?_ ?_ Wk.kk | with_reducible refine And.intro ?_ ?_ | with_reducible omega | exact ok_ints | exact cells_ints | exact no_mem | with_reducible exact plain_ints | (refine le_maxLen ?_; omega) | (refine za9 ⟨?_,?_⟩) | (simp only [go_sem,Qc,Qb,zb1,zb2,forall_eq]; done)))
 all_goals (first | omega | (refine retR_draw rfl rfl rfl (by omega) (by omega) (by omega) (by omega) ⟨_,rfl,?_⟩))
 all_goals (first | (show _∧_; omega))
end Abs.Y

namespace Abs.Y
open Go Go.Proofs Abs
set_option maxRecDepth 100000

def digS (n : Nat) : ByteArray:=(ByteArray.mk #[48,49,50,51,52,53,54,55,56,57]).extract n (n + 1)
def numN (n : Nat) : ByteArray:=if n < 10 then digS n else numN (n / 10)++digS (n % 10)
termination_by n
decreasing_by omega
theorem numN_lt {n : Nat} (h : n < 10) : numN n=digS n:=by rw [numN,if_pos h]
theorem numN_ge {n : Nat} (h : ¬ n < 10) : numN n=numN (n / 10)++digS (n % 10):=by rw [numN,if_neg h]
def numS (n : Int) : ByteArray:=if n < 0 then ByteArray.mk #[45]++numN n.natAbs else numN n.toNat
theorem digS_size : ∀ n,n < 10->(digS n).size=1:=by decide +kernel
theorem numN_size : ∀ k n,n < 10 ^ (k + 1)->(numN n).size<=k + 1
 | 0,n,h => by rw [numN_lt (by simpa using h),digS_size n (by simpa using h)]; exact Nat.le_refl _
 | k + 1, n, h => by
   by_cases h1 : n < 10
   . rw [numN_lt h1,digS_size n h1]; omega
   . have h2 : n / 10 < 10 ^ (k + 1):=by rw [Nat.pow_succ] at h; omega
     rw [numN_ge h1,ByteArray.size_append,digS_size _ (by omega)]
     have:=numN_size k (n / 10) h2
     omega
theorem l1NumN_ok (n : Nat) (hn : n < 1000000000000000) : Ctr Tryd.prog 91 [.int .i64 (n : Nat)] false (.d (.str (numN n))) []:=by
 induction n using Nat.strongRecOn with
 | ind n ih =>
   by_cases h : n < 10
   . rw [numN_lt h,digS]
     have e2 : ((n : Int) + 1).toNat=n + 1:=by omega
     refine Ctr.of (n:=25) (rs:=[.tmp 2]) Tryd.func91 rfl rfl Tryd.ntmps91 rfl rfl (by kernel_rfl) Tryd.checked.mixed ?_
     simp (disch:=first | omega | decide +kernel) only [e2,Int.toNat_natCast,go_sem,Qa,Qb,Qc,Qd,Qe,↓reduceIte,reduceCtorEq,Qf,Qg,Qh]
     (repeat' (first | ((first | (refine gsel_split (fun q' => ?_) (fun q' => ?_)<;>(have h':=q')<;>(try simp only [za1,za2,Ba,Bb,za3,ne_eq,za4,za5,za6,Ia,Ib,Ic,Ie,Da,Bc,Bh,Be,za7,za8] at h')<;>try (exfalso; omega)) | (have q':=trivial; first | refine hE _ _ ret_ne ?_ | refine hE _ _ exit_ne ?_))<;>(try simp (disch:=first | omega | decide +kernel) only [q',e2,Int.toNat_natCast,go_sem,Qa,Qb,Qc,Qd,Qe,↓reduceIte,reduceCtorEq,Qf,Qg,Qh])<;>clear q') | refine hN _ ?_ ?_ Wk.kk | with_reducible refine And.intro ?_ ?_ | with_reducible omega | exact ok_ints | exact cells_ints | exact no_mem | with_reducible exact plain_ints | (refine le_maxLen ?_; omega) | (refine za9 ⟨?_,?_⟩) | (simp only [go_sem,Qc,Qb,zb1,zb2,forall_eq]; done)))
   . have c1:=ih (n / 10) (by omega) (by omega)
     have hs:=numN_size 14 (n / 10) (by omega)
     have hd:=digS_size (n % 10) (by omega)
     have e1 : (n : Int).tdiv 10=((n / 10 : Nat) : Int):=by rw [Int.tdiv_eq_ediv_of_nonneg (by omega)]; omega
     have e2 : (n : Int).tmod 10=((n % 10 : Nat) : Int):=by rw [Int.tmod_eq_emod_of_nonneg (by omega)]; omega
     have e3 : (((n % 10 : Nat) : Int) + 1).toNat=n % 10 + 1:=by omega
     rw [numN_ge h]
     unfold digS at hd ⊢
     refine Ctr.of (n:=25) (rs:=[.tmp 2]) Tryd.func91 rfl rfl Tryd.ntmps91 rfl rfl (by kernel_rfl) Tryd.checked.mixed ?_
     simp (disch:=first | omega | decide +kernel) only [e1,e2,e3,Int.toNat_natCast,go_sem,Qa,Qb,Qc,Qd,Qe,↓reduceIte,reduceCtorEq,Qf,Qg,Qh]
     (repeat' (first | ((first | (refine gsel_split (fun q' => ?_) (fun q' => ?_)<;>(have h':=q')<;>(try simp only [za1,za2,Ba,Bb,za3,ne_eq,za4,za5,za6,Ia,Ib,Ic,Ie,Da,Bc,Bh,Be,za7,za8] at h')<;>try (exfalso; omega)) | (have q':=trivial; first | refine callX_new (c1) rfl (by decide) ?_ | refine callY_new (c1) rfl ?_ | refine hE _ _ ret_ne ?_ | refine hE _ _ exit_ne ?_))<;>(try simp (disch:=first | omega | decide +kernel) only [q',e1,e2,e3,Int.toNat_natCast,go_sem,Qa,Qb,Qc,Qd,Qe,↓reduceIte,reduceCtorEq,Qf,Qg,Qh])<;>clear q') | refine hN _ ?_ ?_ Wk.kk | with_reducible refine And.intro ?_ ?_ | with_reducible omega | exact ok_ints | exact cells_ints | exact no_mem | with_reducible exact plain_ints | (refine le_maxLen ?_; omega) | (refine za9 ⟨?_,?_⟩) | (simp only [go_sem,Qc,Qb,zb1,zb2,forall_eq]; done)))
theorem l1Num_ok (n : Int) (hn : -1000000000000000 < n∧n < 1000000000000000) : Ctr Tryd.prog 91 [.int .i64 n] false (.d (.str (numS n))) []:=by
 by_cases h : n < 0
 . have c1:=l1NumN_ok n.natAbs (by omega)
   have hs:=numN_size 14 n.natAbs (by omega)
   have e1 : (0 - n)=((n.natAbs : Nat) : Int):=by omega
   rw [numS,if_pos h]
   refine Ctr.of (n:=25) (rs:=[.tmp 2]) Tryd.func91 rfl rfl Tryd.ntmps91 rfl rfl (by kernel_rfl) Tryd.checked.mixed ?_
   simp (disch:=first | omega | decide +kernel) only [e1,go_sem,Qa,Qb,Qc,Qd,Qe,↓reduceIte,reduceCtorEq,Qf,Qg,Qh]
   (repeat' (first | ((first | (refine gsel_split (fun q' => ?_) (fun q' => ?_)<;>(have h':=q')<;>(try simp only [za1,za2,Ba,Bb,za3,ne_eq,za4,za5,za6,Ia,Ib,Ic,Ie,Da,Bc,Bh,Be,za7,za8] at h')<;>try (exfalso; omega)) | (have q':=trivial; first | refine callX_new (c1) rfl (by decide) ?_ | refine callY_new (c1) rfl ?_ | refine hE _ _ ret_ne ?_ | refine hE _ _ exit_ne ?_))<;>(try simp (disch:=first | omega | decide +kernel) only [q',e1,go_sem,Qa,Qb,Qc,Qd,Qe,↓reduceIte,reduceCtorEq,Qf,Qg,Qh])<;>clear q') | refine hN _ ?_ ?_ Wk.kk | with_reducible refine And.intro ?_ ?_ | with_reducible omega | exact ok_ints | exact cells_ints | exact no_mem | with_reducible exact plain_ints | (refine le_maxLen ?_; omega) | (refine za9 ⟨?_,?_⟩) | (simp only [go_sem,Qc,Qb,zb1,zb2,forall_eq]; done)))
 . obtain ⟨k,rfl⟩:=Int.eq_ofNat_of_zero_le (show 0<=n by omega)
   have c1:=l1NumN_ok k (by omega)
   rw [numS,if_neg h]
   exact c1
end Abs.Y

namespace Abs
open Go Go.RowKit
theorem Ok.block {P : Program} {N id : Nat} {c : Code} {Q : Exit->St->Prop} {st : St} (h : Ok P N c (blockQ id Q) st) : Ok P N (.block id c) Q st:=fun h1 h2 Z B M w0 a w hs => by
 refine sw_mono c (h h1 h2 Z B M w0 a w hs) fun e a w hl => ?_
 cases e with
 | exit id' =>
   obtain ⟨st',hs',hk⟩:=hl
   simp only [blockQ] at hk
   simp only [Exit.inBlock]
   split
   . rename_i e; rw [if_pos e] at hk; exact ⟨st',hs',hk⟩
   . rename_i e; rw [if_neg e] at hk; exact ⟨st',hs',hk⟩
 | normal => exact hl
 | goto l => exact hl
 | ret => exact hl
 | panic ch => exact hl
 | outgrown => exact hl
end Abs

namespace Abs
open Go Go.Proofs
theorem callX_rels {P : Program} {N f cavs st dst K} {xs : List AV} {sh : Bool} {Q : AV->Prop} (hs : CtrR P f xs [] [] sh fun r oo => oo=[]∧Q r) (hp : passM P (delL [] st.o) (nth []) sh cavs xs) (hd : dstB N dst)
 (hK : ∀ r,Q r->K (impM st dst (nth []) [] r [])) : callX P N f cavs dst K st :=
 callX_rel [] [] [] hs hp trivial (by simp [namesI,keysO]) hd fun r oo ⟨e,hQ⟩ => by subst e; exact ⟨by simp [namesOK,keysO],hK r hQ⟩
theorem endF {P : Program} {N : Nat} {rs u sh} {R : AV->List (Nat × AO)->Prop} {st : St} (js : List Nat) (h : retR P rs u [] sh R .ret (frzs js st)) : ∃ st',Wk N st st'∧retR P rs u [] sh R .ret st' :=
 ⟨_,fun _ β φ _ _ _ _ _ hs => ⟨β,φ,hs.frzs⟩,h⟩
end Abs
namespace Abs.Y
open Go Go.Proofs Abs
set_option maxRecDepth 100000

def NewR (f : FuncId) (xs : List AV) (Q : List Int × Bool->Prop) : Prop:=CtrR Tryd.prog f xs [] [] true fun r oo => ∃ x : List Int × Bool,r=.tup [.sl 1,.d (.bool x.2)]∧oo=[(1,.arr 3 1 (x.1.map (.int .i64)))]∧Q x
def byte (s : ByteArray) (i : Nat) : Int:=(s.data.toList.getD i 0).toNat
def splA (s : ByteArray) (b : Int) : Nat->List ByteArray × Nat
 | 0 => ([],0)
 | i + 1 => if byte s i=b then ((splA s b i).1++[s.extract (splA s b i).2 i],i + 1) else splA s b i
def splI (s : ByteArray) (b : Int) : List ByteArray:=(splA s b s.size).1++[s.extract (splA s b s.size).2 s.size]
@[reducible] def QN : AV->Prop:=fun r => ∃ x : Int × Bool,r=.tup [.d (.int .i64 x.1),.d (.bool x.2)]∧-999999<=x.1∧x.1<=999999
end Abs.Y

namespace Abs.Y
open Go Go.Proofs Abs
set_option maxRecDepth 100000

@[reducible] def QS (n : Nat) : AV->Prop:=fun r => ∃ s : ByteArray,r=.d (.str s)∧s.size<=n
end Abs.Y

namespace Abs.Y
open Go Go.Proofs Abs
set_option maxRecDepth 100000

structure FOK (u : Int) (cs : List (List Int)) : Prop where
 v : 0<=u∧u<=12
 n : cs.length<=60
 k : ∀ c ∈ cs,okClause u c=true
theorem FOK.nil : FOK 0 []:=⟨by omega,by simp,fun _ h => nomatch h⟩
end Abs.Y

namespace Abs.Y
open Go Go.Proofs Abs
set_option maxRecDepth 100000
set_option maxHeartbeats 1000000

theorem retM_dd {P : Program} {t1 t2 : Nat} {st : St} {x y : D} {u : Nat->Value} {ob : AO} (h1 : lk t1 st.s=some (.d x)) (h2 : lk t2 st.s=some (.d y)) (ho : lk 0 st.o=some ob) (hk : lk 1000000000 st.s=some (.hdr 0 (u 0))) (hr : ob.ren (fun j => j)=ob) :
 retM P [.tmp t1,.tmp t2] u [0] true (.tup [.d x,.d y]) [(0,ob)] .ret st:=by
 simp only [retM,resV,h1,h2]
 exact ⟨trivial,⟨fun j => j,rfl,by simpa [hr] using ho,by simp,⟨rfl,hk,trivial⟩⟩,.inl trivial⟩
theorem retR_draw2 {t1 t2 : Nat} {u : Nat->Value} {st : St} {code : List Int} {at_ k : Nat} {Q : AV->Prop} {at' : Nat} {seed' : Int} {x y : D} (h : lk t1 st.s=some (.d x)) (hy : lk t2 st.s=some (.d y)) (ho : lk 0 st.o=some (curB code at' seed')) (hk : lk 1000000000 st.s=some (.hdr 0 (u 0)))
 (h1 : at_<=at') (h2 : at'<=at_ + k) (h3 : 0<=seed') (h4 : seed' < 18446744073709551616) (hQ : Q (.tup [.d x,.d y])) :
 retR Tryd.prog [.tmp t1,.tmp t2] u [0] true (fun r oo => ∃ at' seed',at_<=at'∧at'<=at_ + k∧0<=seed'∧seed' < 18446744073709551616∧oo=curO code at' seed'∧Q r) .ret st :=
 ⟨_,_,⟨at',seed',h1,h2,h3,h4,rfl,hQ⟩,retM_dd h hy ho hk rfl⟩
theorem prime18_ok {code : List Int} (hc : CodeOK code) :
 Draws 68 [] 8 (fun r => ∃ x : Int × Int,r=.tup [.d (.int .i64 x.1),.d (.int .i64 x.2)]∧2<=x.1∧x.1<=7∧-1<=x.2∧x.2<=7) code:=fun at_ seed h1 h2 h3 => by
 have c1:=pick_ok hc 24 (by omega)
 have e1 : ∀ x : Int,0<=x->x.tdiv 11=x / 11:=fun x hx => Int.tdiv_eq_ediv_of_nonneg hx
 have c2 : ∀ k : Nat,1<=k->k<=7->Draws 70 [.d (.slice (List.take k (([2,3,3,5,2,4,7] : List Int).map (D.int .i64))))] 2 (QI fun x => 2<=x∧x<=7) code:=fun k h1 h2 => by
  rw [← List.map_take]
  exact amongD_ok hc _ 2 7 (by simp only [List.length_take,List.length_cons,List.length_nil]; omega) fun x hx => by have:=List.mem_of_mem_take hx; simp at this; omega
 have c3 : ∀ k : Nat,1<=k->k<=9->Draws 70 [.d (.slice (List.take k (([2,3,3,4,1,0,6,7,-1] : List Int).map (D.int .i64))))] 2 (QI fun x => -1<=x∧x<=7) code:=fun k h1 h2 => by
  rw [← List.map_take]
  exact amongD_ok hc _ (-1) 7 (by simp only [List.length_take,List.length_cons,List.length_nil]; omega) fun x hx => by have:=List.mem_of_mem_take hx; simp at this; omega
 simp only [List.map_cons,List.map_nil] at c2 c3
 refine CtrR.of (n:=20) (rs:=[.tmp 2,.tmp 3]) Tryd.func68 rfl rfl Tryd.ntmps68 rfl rfl (by kernel_rfl) Tryd.checked.mixed ?_; intro u
 simp (disch:=first | omega | decide +kernel) only [curO,curB,D.bytes,go_sem,Qa,Qb,Qc,Qd,Qe,↓reduceIte,reduceCtorEq,Qf,Qg,Qh]
 (repeat' (first | ((first | (refine gsel_split (fun q' => ?_) (fun q' => ?_)<;>(have h':=q')<;>(try simp only [za1,za2,Ba,Bb,za3,ne_eq,za4,za5,za6,Ia,Ib,Ic,Ie,Da,Bc,Bh,Be,za7,za8] at h')<;>try (exfalso; omega)) | (have q':=trivial; first | (refine callX_draw _ (c1) ⟨.inl rfl,.inl rfl,trivial⟩ rfl (by simp [dstB]) (by omega) (by omega) (by omega) ?_; rintro _ at1 sd1 hat11 hat12 hsd11 hsd12 ⟨x1,rfl,hx1⟩) | (refine callX_draw _ (c2 _ (by omega) (by omega)) ⟨.inl rfl,.inl rfl,trivial⟩ rfl (by simp [dstB]) (by omega) (by omega) (by omega) ?_; rintro _ at1 sd1 hat11 hat12 hsd11 hsd12 ⟨x1,rfl,hx1⟩) | (refine callX_draw _ (c3 _ (by omega) (by omega)) ⟨.inl rfl,.inl rfl,trivial⟩ rfl (by simp [dstB]) (by omega) (by omega) (by omega) ?_; rintro _ at1 sd1 hat11 hat12 hsd11 hsd12 ⟨x1,rfl,hx1⟩) | refine hE _ _ ret_ne ?_ | refine hE _ _ exit_ne ?_))<;>(try simp (disch:=first | omega | decide +kernel) only [q',curO,curB,D.bytes,e1,Option.isSome_none,Bool.false_eq_true,if_false,go_sem,Qa,Qb,Qc,Qd,Qe,↓reduceIte,reduceCtorEq,Qf,Qg,Qh])<;>clear q') | refine hN _ ?_ ?_ Wk.kk | with_reducible refine And.intro ?_ ?_ | with_reducible omega | exact ok_ints | exact cells_ints | exact no_mem | with_reducible exact plain_ints | (refine le_maxLen ?_; omega) | (refine za9 ⟨?_,?_⟩) | (simp only [go_sem,Qc,Qb,zb1,zb2,forall_eq]; done)))
 all_goals (first | omega | (exact retR_draw2 rfl rfl rfl rfl (by omega) (by omega) (by omega) (by omega) ⟨(_,_),rfl,by omega,by omega,by omega,by omega⟩))
end Abs.Y

namespace Abs.Y
open Go Go.Proofs Abs
set_option maxRecDepth 100000
set_option maxHeartbeats 1000000

def DrawsR (f : FuncId) (xs : List AV) (k : Nat) (Q : AO->Prop) (code : List Int) : Prop:=∀ at_ seed,at_ + k<=1099511627776->0<=seed->seed < 18446744073709551616 ->
 CtrR Tryd.prog f (.p 0 0 :: xs) (curO code at_ seed) [0] true fun r oo => ∃ at' seed' o,at_<=at'∧at'<=at_ + k∧0<=seed'∧seed' < 18446744073709551616∧r=.sl 1∧oo=[(0,curB code at' seed'),(1,o)]∧Q o
theorem callX_drawR {N f cavs st d K} (J : Nat) {xs k Q code at_ seed} (hs : DrawsR f xs k Q code) (hp : passM Tryd.prog (delL [J] st.o) (nth [J]) true cavs (.p 0 0 :: xs)) (ho : lkn J st.o=some ((curB code at_ seed).ren (nth [J])))
 (hJ : (J == 100000 * (d + 1))=false) (hd : d < N) (h1 : at_ + k<=1099511627776) (h2 : 0<=seed) (h3 : seed < 18446744073709551616)
 (hK : ∀ at' seed' o,at_<=at'->at'<=at_ + k->0<=seed'->seed' < 18446744073709551616->Q o->K (impM st (some d) (nth [J,100000 * (d + 1)]) [100000 * (d + 1)] (.sl 1) [(0,curB code at' seed'),(1,o)])) : callX Tryd.prog N f cavs (some d) K st :=
 callX_rel [J] [J,100000 * (d + 1)] [100000 * (d + 1)] (hs at_ seed h1 h2 h3) hp ⟨ho,trivial⟩ (by simp [namesI,keysO,nth]) hd fun r oo ⟨at',seed',o,a1,a2,a3,a4,er,e,hQ⟩ => by
  have hne : ¬ J=100000 * (d + 1):=by simpa using hJ
  subst er; subst e; exact ⟨by simp [namesOK,keysO,nth,hne,Ne.symm hne],hK at' seed' o a1 a2 a3 a4 hQ⟩
theorem retM_ns {P : Program} {t j : Nat} {st : St} {u : Nat->Value} {ob o1 : AO} (h : lk t st.s=some (.sl j)) (ho : lk 0 st.o=some ob) (hj : lk j st.o=some o1) (hk : lk 1000000000 st.s=some (.hdr 0 (u 0))) (hne : ¬ j=0) (hr : ∀ g,ob.ren g=ob) (hr1 : ∀ g,o1.ren g=o1) :
 retM P [.tmp t] u [0] true (.sl 1) [(0,ob),(1,o1)] .ret st:=by
 simp only [retM,resV,h]
 refine ⟨trivial,⟨nth [0,j],rfl,?_,by simp [nth,hne,Ne.symm hne],⟨rfl,hk,trivial⟩⟩,.inl trivial⟩
 intro p hp
 simp only [List.mem_cons,List.not_mem_nil,or_false] at hp
 rcases hp with rfl | rfl
 . rw [hr]; exact ho
 . rw [hr1]; exact hj
@[reducible] def QL (Q : List Int->Prop) : AO->Prop:=fun o => ∃ x : List Int,o=.arr 3 1 (x.map (.int .i64))∧Q x
def SmN (n : Nat) (l : List Int) : Prop:=l.length<=n∧∀ x ∈ l,-1000001<=x∧x<=1000001
end Abs.Y

namespace Abs
open Go Go.Proofs
end Abs
namespace Abs.Y
open Go Go.Proofs Abs
set_option maxRecDepth 100000

structure ToOK (u : Int) (to : List Int) : Prop where
 v : 0<=u∧u<=12
 n : (to.length : Int)=u
 a : ∀ i,i < to.length->(to.getD i 0).natAbs=i + 1
end Abs.Y

namespace Abs
open Go Go.Proofs
end Abs
namespace Abs.Y
open Go Go.Proofs Abs
set_option maxRecDepth 100000

@[reducible] def QF : AV->Prop:=fun r => ∃ x : Int × List (List Int),r=.d (.agg [.int .i64 x.1,.slice (x.2.map D.ints)])∧-1<=x.1∧x.1<=13∧x.2.length<=100∧∀ c ∈ x.2,c.length<=100
end Abs.Y

namespace Abs.Y
open Go Go.Proofs Abs
set_option maxRecDepth 100000
set_option maxHeartbeats 1000000

def Sn (n : Nat) (l : List Int) : Prop:=l.length<=n∧∀ x ∈ l,-9223372036854775808<=x∧x<=1000001
theorem Sn.getD {n : Nat} {l : List Int} (h : Sn n l) {i : Nat} (hi : i < l.length) : -9223372036854775808<=l.getD i 0∧l.getD i 0<=1000001:=by
 refine h.2 _ ?_
 simp [List.getD_eq_getElem?_getD,hi]
theorem Sn.app {n : Nat} {l : List Int} (h : Sn n l) {y : Int} (hy : -9223372036854775808<=y∧y<=1000001) : Sn (n + 1) (l++[y]):=by
 refine ⟨by have:=h.1; simp; omega,fun x hx => ?_⟩
 rw [List.mem_append,List.mem_singleton] at hx
 rcases hx with hx | rfl
 . exact h.2 x hx
 . exact hy
end Abs.Y

namespace Abs
open Go Go.Proofs Go.RowKit
end Abs
namespace Abs.Y
open Go Go.Proofs Abs
set_option maxRecDepth 100000

end Abs.Y

namespace Abs.Y
open Go Go.Proofs Abs
set_option maxRecDepth 100000
set_option maxHeartbeats 1000000

end Abs.Y
