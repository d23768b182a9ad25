/- What functions of this program compute, over plain data. No condition. -/
import Derived.Test.YtckigpgkmdhfoaaR1
import Derived.Test.YtckigpgkmdhfoaaCP1
import Derived.Test.YtckigpgkmdhfoaaV1
set_option linter.all false
open Nat renaming reduceEqDiff -> Qa, reduceLT -> Qb, reduceAdd -> Qc, reduceMul -> Qd, reduceSub -> Qe, reduceLeDiff -> Qf, reduceSubDiff -> Qg, reduceBEq -> Qh
open Bool renaming not_eq_true' -> Ba, not_eq_false' -> Bb, and_eq_true -> Bc, or_eq_true -> Bh, or_eq_false_iff -> Be
open Int renaming ofNat_lt -> Ia, ofNat_le -> Ib, not_lt -> Ic, not_le -> Ie
open Decidable renaming not_not -> Da
namespace Abs.Y
open Go Go.Proofs Abs
set_option maxRecDepth 100000
set_option maxHeartbeats 1000000

@[reducible] def QB : AV->Prop:=fun r => ∃ b : Bool,r=.d (.bool b)∧True
theorem pick_fin {n y : Int} (h : 1 < n) (h0 : 0<=y) (h1 : y<=65535) : (n<=1->y % n=0)∧0<=y % n∧(1 < n->y % n < n)∧y % n<=65535:=by
 have b1:=Int.emod_nonneg y (b:=n) (by omega)
 have b2:=Int.emod_lt_of_pos y (b:=n) (by omega)
 have b3:=Int.mul_ediv_add_emod y n
 have b4:=Int.mul_nonneg (a:=n) (b:=y / n) (by omega) (Int.ediv_nonneg h0 (by omega))
 generalize y % n=m at *
 generalize n * (y / n)=z at *
 omega
theorem pick_ok {code : List Int} (hc : CodeOK code) (n : Int) (hn : n<=9223372036854775807∧-9223372036854775808<=n) :
 Draws 73 [.d (.int .i64 n)] 2 (QI fun x => (n<=1->x=0)∧0<=x∧(1 < n->x < n)∧x<=65535) code:=fun at_ seed h1 h2 h3 => by
 have c1:=next_draws hc
 have e1 : ∀ x : Int,0<=x->x.tmod n=x % n:=fun x hx => Int.tmod_eq_emod_of_nonneg hx
 refine CtrR.of (n:=20) (rs:=[.tmp 4]) Try.func73 rfl rfl Try.ntmps73 rfl rfl (by kernel_rfl) Try.checked.mixed ?_; intro u
 simp (disch:=first | omega | decide +kernel) only [curO,curB,D.bytes,go_sem,Qa,Qb,Qc,Qd,Qe,↓reduceIte,reduceCtorEq,Qf,Qg,Qh]
 (repeat' (first | ((first | (refine gsel_split (fun q' => ?_) (fun q' => ?_)<;>(have h':=q')<;>(try simp only [za1,za2,Ba,Bb,za3,ne_eq,za4,za5,za6,Ia,Ib,Ic,Ie,Da,Bc,Bh,Be,za7,za8] at h')<;>try (exfalso; omega)) | (have q':=trivial; first | (refine callX_draw _ (c1) ⟨.inl rfl,trivial⟩ rfl (by simp [dstB]) (by omega) (by omega) (by omega) ?_; rintro _ at1 sd1 hat11 hat12 hsd11 hsd12 ⟨x1,rfl,hx1⟩) | refine hE _ _ ret_ne ?_ | refine hE _ _ exit_ne ?_))<;>(try simp (disch:=first | omega | decide +kernel) only [q',curO,curB,D.bytes,e1,go_sem,Qa,Qb,Qc,Qd,Qe,↓reduceIte,reduceCtorEq,Qf,Qg,Qh])<;>clear q') | refine hN _ ?_ ?_ Wk.kk | with_reducible refine And.intro ?_ ?_ | with_reducible omega | exact ok_ints | exact cells_ints | exact no_mem | with_reducible exact plain_ints | (refine le_maxLen ?_; omega) | (refine za9 ⟨?_,?_⟩) | (simp only [go_sem,Qc,Qb,zb1,zb2,forall_eq]; done)))
 all_goals (first | omega | (refine retR_draw rfl rfl rfl (by omega) (by omega) (by omega) (by omega) ⟨_,rfl,?_⟩))
 all_goals (first | exact pick_fin (by omega) (by omega) (by omega) | (show _∧_; refine ⟨fun _ => rfl,?_,?_,?_⟩<;>omega))
theorem one_ok {code : List Int} (hc : CodeOK code) (n : Int) (hn : n<=9223372036854775807∧-9223372036854775808<=n) :
 Draws 70 [.d (.int .i64 n)] 2 QB code:=fun at_ seed h1 h2 h3 => by
 have c1:=pick_ok hc n hn
 refine CtrR.of (n:=9) (rs:=[.tmp 4]) Try.func70 rfl rfl Try.ntmps70 rfl rfl (by kernel_rfl) Try.checked.mixed ?_; intro u
 simp (disch:=first | omega | decide +kernel) only [curO,curB,D.bytes,go_sem,Qa,Qb,Qc,Qd,Qe,↓reduceIte,reduceCtorEq,Qf,Qg,Qh]
 (repeat' (first | ((first | (refine gsel_split (fun q' => ?_) (fun q' => ?_)<;>(have h':=q')<;>(try simp only [za1,za2,Ba,Bb,za3,ne_eq,za4,za5,za6,Ia,Ib,Ic,Ie,Da,Bc,Bh,Be,za7,za8] at h')<;>try (exfalso; omega)) | (have q':=trivial; first | (refine callX_draw _ (c1) ⟨.inl rfl,.inl rfl,trivial⟩ rfl (by simp [dstB]) (by omega) (by omega) (by omega) ?_; rintro _ at1 sd1 hat11 hat12 hsd11 hsd12 ⟨x1,rfl,hx1⟩) | refine hE _ _ ret_ne ?_ | refine hE _ _ exit_ne ?_))<;>(try simp (disch:=first | omega | decide +kernel) only [q',curO,curB,D.bytes,go_sem,Qa,Qb,Qc,Qd,Qe,↓reduceIte,reduceCtorEq,Qf,Qg,Qh])<;>clear q') | refine hN _ ?_ ?_ Wk.kk | with_reducible refine And.intro ?_ ?_ | with_reducible omega | exact ok_ints | exact cells_ints | exact no_mem | with_reducible exact plain_ints | (refine le_maxLen ?_; omega) | (refine za9 ⟨?_,?_⟩) | (simp only [go_sem,Qc,Qb,zb1,zb2,forall_eq]; done)))
 all_goals (first | omega | (exact retR_draw rfl rfl rfl (by omega) (by omega) (by omega) (by omega) ⟨_,rfl,trivial⟩))
theorem among_ok {code : List Int} (hc : CodeOK code) (l : List Int) (hl : 1<=l.length∧l.length<=60000) :
 Draws 109 [.d (D.ints l)] 2 (QI fun x => x ∈ l) code:=fun at_ seed h1 h2 h3 => by
 have c1:=pick_ok hc (l.length : Nat) (by omega)
 have hei : ∀ x : Int,0<=x->x < l.length->el (l.map (D.int .i64)) x.toNat=.int .i64 (l.getD x.toNat 0):=fun x hx hl => el_ints (by omega)
 have hm : ∀ x : Int,0<=x->x < l.length->l.getD x.toNat 0 ∈ l:=fun x hx hl => by
  have : x.toNat < l.length:=by omega
  simp [List.getD_eq_getElem?_getD,this]
 refine CtrR.of (n:=12) (rs:=[.tmp 4]) Try.func109 rfl rfl Try.ntmps109 rfl rfl (by kernel_rfl) Try.checked.mixed ?_; intro u
 simp (disch:=first | omega | decide +kernel) only [curO,curB,D.bytes,D.ints,go_sem,Qa,Qb,Qc,Qd,Qe,↓reduceIte,reduceCtorEq,Qf,Qg,Qh]
 (repeat' (first | ((first | (refine gsel_split (fun q' => ?_) (fun q' => ?_)<;>(have h':=q')<;>(try simp only [za1,za2,Ba,Bb,za3,ne_eq,za4,za5,za6,Ia,Ib,Ic,Ie,Da,Bc,Bh,Be,za7,za8] at h')<;>try (exfalso; omega)) | (have q':=trivial; first | (refine callX_draw _ (c1) ⟨.inl rfl,.inl rfl,trivial⟩ rfl (by simp [dstB]) (by omega) (by omega) (by omega) ?_; rintro _ at1 sd1 hat11 hat12 hsd11 hsd12 ⟨x1,rfl,hx1⟩) | refine hE _ _ ret_ne ?_ | refine hE _ _ exit_ne ?_))<;>(try simp (disch:=first | omega | decide +kernel) only [q',curO,curB,D.bytes,D.ints,hei,go_sem,Qa,Qb,Qc,Qd,Qe,↓reduceIte,reduceCtorEq,Qf,Qg,Qh])<;>clear q') | refine hN _ ?_ ?_ Wk.kk | with_reducible refine And.intro ?_ ?_ | with_reducible omega | exact ok_ints | exact cells_ints | exact no_mem | with_reducible exact plain_ints | (refine le_maxLen ?_; omega) | (refine za9 ⟨?_,?_⟩) | (simp only [go_sem,Qc,Qb,zb1,zb2,forall_eq]; done)))
 all_goals (first | omega | (refine retR_draw rfl rfl rfl (by omega) (by omega) (by omega) (by omega) ⟨_,rfl,?_⟩))
 all_goals (first | exact hm _ (by omega) (by omega))
end Abs.Y

namespace Abs.Y
open Go Go.Proofs Abs
set_option maxRecDepth 100000
set_option maxHeartbeats 1000000

def DrawsL (f : FuncId) (xs : List AV) (k : Nat) (o : AO) (Q : AV->Prop) (code : List Int) : Prop:=∀ at_ seed,at_ + k<=1099511627776->0<=seed->seed < 18446744073709551616 ->
 CtrR Try.prog f (.p 0 0 :: xs) [(0,curB code at_ seed),(1,o)] [0,1] true fun r oo => ∃ at' seed',at_<=at'∧at'<=at_ + k∧0<=seed'∧seed' < 18446744073709551616∧oo=[(0,curB code at' seed'),(1,o)]∧Q r
theorem callX_drawL {N f cavs st dst K} (J L : Nat) {xs k o Q code at_ seed} (hs : DrawsL f xs k o Q code) (hp : passM Try.prog (delL [J,L] st.o) (nth [J,L]) true cavs (.p 0 0 :: xs)) (ho : lkn J st.o=some ((curB code at_ seed).ren (nth [J,L])))
 (hl : lkn L st.o=some (o.ren (nth [J,L]))) (hJL : J ≠ L) (hd : dstB N dst) (h1 : at_ + k<=1099511627776) (h2 : 0<=seed) (h3 : seed < 18446744073709551616)
 (hK : ∀ r at' seed',at_<=at'->at'<=at_ + k->0<=seed'->seed' < 18446744073709551616->Q r->K (impM st dst (nth [J,L]) [] r [(0,curB code at' seed'),(1,o)])) : callX Try.prog N f cavs dst K st :=
 callX_rel [J,L] [J,L] [] (hs at_ seed h1 h2 h3) hp ⟨ho,hl,trivial⟩ (by simp [namesI,keysO,nth,hJL,Ne.symm hJL]) hd fun r oo ⟨at',seed',a1,a2,a3,a4,e,hQ⟩ => by
  subst e; exact ⟨by simp [namesOK,keysO,nth,hJL,Ne.symm hJL],hK r at' seed' a1 a2 a3 a4 hQ⟩
theorem retM_ds2 {P : Program} {t : Nat} {st : St} {x : D} {u : Nat->Value} {o0 o1 : AO} (h : lk t st.s=some (.d x)) (h0 : lk 0 st.o=some o0) (h1 : lk 1 st.o=some o1) (k0 : lk 1000000000 st.s=some (.hdr 0 (u 0))) (k1 : lk 1000000001 st.s=some (.hdr 1 (u 1)))
 (r0 : o0.ren (fun j => j)=o0) (r1 : o1.ren (fun j => j)=o1) : retM P [.tmp t] u [0,1] true (.d x) [(0,o0),(1,o1)] .ret st:=by
 simp only [retM,resV,h]
 exact ⟨trivial,⟨fun j => j,rfl,by simpa [r0,r1] using ⟨h0,h1⟩,by simp,⟨rfl,k0,⟨rfl,k1,trivial⟩⟩⟩,.inl trivial⟩
theorem retR_drawL {t : Nat} {u : Nat->Value} {st : St} {code : List Int} {at_ k : Nat} {Q : AV->Prop} {o : AO} {at' : Nat} {seed' : Int} {x : D} (h : lk t st.s=some (.d x)) (ho : lk 0 st.o=some (curB code at' seed')) (hl : lk 1 st.o=some o) (hk : lk 1000000000 st.s=some (.hdr 0 (u 0))) (hk1 : lk 1000000001 st.s=some (.hdr 1 (u 1)))
 (hr : o.ren (fun j => j)=o) (h1 : at_<=at') (h2 : at'<=at_ + k) (h3 : 0<=seed') (h4 : seed' < 18446744073709551616) (hQ : Q (.d x)) :
 retR Try.prog [.tmp t] u [0,1] true (fun r oo => ∃ at' seed',at_<=at'∧at'<=at_ + k∧0<=seed'∧seed' < 18446744073709551616∧oo=[(0,curB code at' seed'),(1,o)]∧Q r) .ret st :=
 ⟨_,_,⟨at',seed',h1,h2,h3,h4,rfl,hQ⟩,retM_ds2 h ho hl hk hk1 rfl hr⟩
theorem amongL_ok {code : List Int} (hc : CodeOK code) (l : List Int) (hl : 1<=l.length∧l.length<=60000) :
 DrawsL 109 [.sl 1] 2 (.arr 3 1 (l.map (.int .i64))) (QI fun x => x ∈ l) code:=fun at_ seed h1 h2 h3 => by
 have c1:=pick_ok hc (l.length : Nat) (by omega)
 have hei : ∀ x : Int,0<=x->x < l.length->el (l.map (D.int .i64)) x.toNat=.int .i64 (l.getD x.toNat 0):=fun x hx hl => el_ints (by omega)
 have hm : ∀ x : Int,0<=x->x < l.length->l.getD x.toNat 0 ∈ l:=fun x hx hl => by
  have : x.toNat < l.length:=by omega
  simp [List.getD_eq_getElem?_getD,this]
 refine CtrR.of (n:=12) (rs:=[.tmp 4]) Try.func109 rfl rfl Try.ntmps109 rfl rfl (by kernel_rfl) Try.checked.mixed ?_; intro u
 simp (disch:=first | omega | decide +kernel) only [curO,curB,D.bytes,D.ints,go_sem,Qa,Qb,Qc,Qd,Qe,↓reduceIte,reduceCtorEq,Qf,Qg,Qh]
 (repeat' (first | ((first | (refine gsel_split (fun q' => ?_) (fun q' => ?_)<;>(have h':=q')<;>(try simp only [za1,za2,Ba,Bb,za3,ne_eq,za4,za5,za6,Ia,Ib,Ic,Ie,Da,Bc,Bh,Be,za7,za8] at h')<;>try (exfalso; omega)) | (have q':=trivial; first | (refine callX_draw _ (c1) ⟨.inl rfl,.inl rfl,trivial⟩ rfl (by simp [dstB]) (by omega) (by omega) (by omega) ?_; rintro _ at1 sd1 hat11 hat12 hsd11 hsd12 ⟨x1,rfl,hx1⟩) | refine hE _ _ ret_ne ?_ | refine hE _ _ exit_ne ?_))<;>(try simp (disch:=first | omega | decide +kernel) only [q',curO,curB,D.bytes,D.ints,hei,go_sem,Qa,Qb,Qc,Qd,Qe,↓reduceIte,reduceCtorEq,Qf,Qg,Qh])<;>clear q') | refine hN _ ?_ ?_ Wk.kk | with_reducible refine And.intro ?_ ?_ | with_reducible omega | exact ok_ints | exact cells_ints | exact no_mem | with_reducible exact plain_ints | (refine le_maxLen ?_; omega) | (refine za9 ⟨?_,?_⟩) | (simp only [go_sem,Qc,Qb,zb1,zb2,forall_eq]; done)))
 all_goals (first | omega | (exact retR_drawL rfl rfl rfl rfl rfl rfl (by omega) (by omega) (by omega) (by omega) ⟨_,rfl,hm _ (by omega) (by omega)⟩))
theorem amongB_ok {code : List Int} (hc : CodeOK code) (l : List Int) (lo hi : Int) (hl : 1<=l.length∧l.length<=60000) (hb : ∀ x ∈ l,lo<=x∧x<=hi) :
 DrawsL 109 [.sl 1] 2 (.arr 3 1 (l.map (.int .i64))) (QI fun x => lo<=x∧x<=hi) code:=fun at_ seed h1 h2 h3 =>
 (amongL_ok hc l hl at_ seed h1 h2 h3).mono fun _ _ ⟨a,s,e1,e2,e3,e4,e5,x,e6,e7⟩ => ⟨a,s,e1,e2,e3,e4,e5,x,e6,hb x e7⟩
theorem amongD_ok {code : List Int} (hc : CodeOK code) (l : List Int) (lo hi : Int) (hl : 1<=l.length∧l.length<=60000) (hb : ∀ x ∈ l,lo<=x∧x<=hi) :
 Draws 109 [.d (D.ints l)] 2 (QI fun x => lo<=x∧x<=hi) code:=fun at_ seed h1 h2 h3 =>
 (among_ok hc l hl at_ seed h1 h2 h3).mono fun _ _ ⟨a,s,e1,e2,e3,e4,e5,x,e6,e7⟩ => ⟨a,s,e1,e2,e3,e4,e5,x,e6,hb x e7⟩
theorem lit_ok {code : List Int} (hc : CodeOK code) (vars : Int) (hv : -1000000<=vars∧vars<=1000000) :
 Draws 111 [.d (.int .i64 vars)] 8 (QI fun x => -1000001<=x∧x<=1000001) code:=fun at_ seed h1 h2 h3 => by
 have c1:=one_ok hc 40 (by omega)
 have c2:=one_ok hc 2 (by omega)
 have c3:=pick_ok hc vars (by omega)
 have c4:=amongB_ok hc [0,vars + 1,0 - vars - 1] (-1000001) 1000001 (by simp) (by simp; omega)
 simp only [List.map_cons,List.map_nil] at c4
 refine CtrR.of (n:=29) (rs:=[.tmp 4]) Try.func111 rfl rfl Try.ntmps111 rfl rfl (by kernel_rfl) Try.checked.mixed ?_; intro u
 simp (disch:=first | omega | decide +kernel) only [curO,curB,D.bytes,go_sem,Qa,Qb,Qc,Qd,Qe,↓reduceIte,reduceCtorEq,Qf,Qg,Qh]
 (repeat' (first | ((first | (refine gsel_split (fun q' => ?_) (fun q' => ?_)<;>(have h':=q')<;>(try simp only [za1,za2,Ba,Bb,za3,ne_eq,za4,za5,za6,Ia,Ib,Ic,Ie,Da,Bc,Bh,Be,za7,za8] at h')<;>try (exfalso; omega)) | (have q':=trivial; first | (refine callX_draw _ (c1) ⟨.inl rfl,.inl rfl,trivial⟩ rfl (by simp [dstB]) (by omega) (by omega) (by omega) ?_; rintro _ at1 sd1 hat11 hat12 hsd11 hsd12 ⟨x1,rfl,hx1⟩) | (refine callX_draw _ (c2) ⟨.inl rfl,.inl rfl,trivial⟩ rfl (by simp [dstB]) (by omega) (by omega) (by omega) ?_; rintro _ at1 sd1 hat11 hat12 hsd11 hsd12 ⟨x1,rfl,hx1⟩) | (refine callX_draw _ (c3) ⟨.inl rfl,.inl rfl,trivial⟩ rfl (by simp [dstB]) (by omega) (by omega) (by omega) ?_; rintro _ at1 sd1 hat11 hat12 hsd11 hsd12 ⟨x1,rfl,hx1⟩) | (refine callX_drawL _ _ (c4) ⟨.inl rfl,.inl rfl,trivial⟩ rfl rfl (by decide) (by simp [dstB]) (by omega) (by omega) (by omega) ?_; rintro _ at1 sd1 hat1 hat2 hsd1 hsd2 ⟨x1,rfl,hx1⟩) | refine hE _ _ ret_ne ?_ | refine hE _ _ exit_ne ?_))<;>(try simp (disch:=first | omega | decide +kernel) only [q',curO,curB,D.bytes,go_sem,Qa,Qb,Qc,Qd,Qe,↓reduceIte,reduceCtorEq,Qf,Qg,Qh])<;>clear q') | refine hN _ ?_ ?_ Wk.kk | with_reducible refine And.intro ?_ ?_ | with_reducible omega | exact ok_ints | exact cells_ints | exact no_mem | with_reducible exact plain_ints | (refine le_maxLen ?_; omega) | (refine za9 ⟨?_,?_⟩) | (simp only [go_sem,Qc,Qb,zb1,zb2,forall_eq]; done)))
 all_goals (first | omega | (refine retR_draw rfl rfl rfl (by omega) (by omega) (by omega) (by omega) ⟨_,rfl,?_⟩))
 all_goals (first | (show _∧_; omega))
end Abs.Y

namespace Abs.Y
open Go Go.Proofs Abs
set_option maxRecDepth 100000

def digS (n : Nat) : ByteArray:=(ByteArray.mk #[48,49,50,51,52,53,54,55,56,57]).extract n (n + 1)
def numN (n : Nat) : ByteArray:=if n < 10 then digS n else numN (n / 10)++digS (n % 10)
termination_by n
decreasing_by omega
theorem numN_lt {n : Nat} (h : n < 10) : numN n=digS n:=by rw [numN,if_pos h]
theorem numN_ge {n : Nat} (h : ¬ n < 10) : numN n=numN (n / 10)++digS (n % 10):=by rw [numN,if_neg h]
def numS (n : Int) : ByteArray:=if n < 0 then ByteArray.mk #[45]++numN n.natAbs else numN n.toNat
theorem digS_size : ∀ n,n < 10->(digS n).size=1:=by decide +kernel
theorem numN_size : ∀ k n,n < 10 ^ (k + 1)->(numN n).size<=k + 1
 | 0,n,h => by rw [numN_lt (by simpa using h),digS_size n (by simpa using h)]; exact Nat.le_refl _
 | k + 1, n, h => by
   by_cases h1 : n < 10
   . rw [numN_lt h1,digS_size n h1]; omega
   . have h2 : n / 10 < 10 ^ (k + 1):=by rw [Nat.pow_succ] at h; omega
     rw [numN_ge h1,ByteArray.size_append,digS_size _ (by omega)]
     have:=numN_size k (n / 10) h2
     omega
theorem numS_size {n : Int} (h : -1000000000000000 < n∧n < 1000000000000000) : (numS n).size<=16:=by
 unfold numS
 split
 . rw [ByteArray.size_append]
   have:=numN_size 14 n.natAbs (by omega)
   have e : (ByteArray.mk #[45]).size=1:=rfl
   omega
 . have:=numN_size 14 n.toNat (by omega)
   omega
theorem l1NumN_ok (n : Nat) (hn : n < 1000000000000000) : Ctr Try.prog 184 [.int .i64 (n : Nat)] false (.d (.str (numN n))) []:=by
 induction n using Nat.strongRecOn with
 | ind n ih =>
   by_cases h : n < 10
   . rw [numN_lt h,digS]
     have e2 : ((n : Int) + 1).toNat=n + 1:=by omega
     refine Ctr.of (n:=25) (rs:=[.tmp 2]) Try.func184 rfl rfl Try.ntmps184 rfl rfl (by kernel_rfl) Try.checked.mixed ?_
     simp (disch:=first | omega | decide +kernel) only [e2,Int.toNat_natCast,go_sem,Qa,Qb,Qc,Qd,Qe,↓reduceIte,reduceCtorEq,Qf,Qg,Qh]
     (repeat' (first | ((first | (refine gsel_split (fun q' => ?_) (fun q' => ?_)<;>(have h':=q')<;>(try simp only [za1,za2,Ba,Bb,za3,ne_eq,za4,za5,za6,Ia,Ib,Ic,Ie,Da,Bc,Bh,Be,za7,za8] at h')<;>try (exfalso; omega)) | (have q':=trivial; first | refine hE _ _ ret_ne ?_ | refine hE _ _ exit_ne ?_))<;>(try simp (disch:=first | omega | decide +kernel) only [q',e2,Int.toNat_natCast,go_sem,Qa,Qb,Qc,Qd,Qe,↓reduceIte,reduceCtorEq,Qf,Qg,Qh])<;>clear q') | refine hN _ ?_ ?_ Wk.kk | with_reducible refine And.intro ?_ ?_ | with_reducible omega | exact ok_ints | exact cells_ints | exact no_mem | with_reducible exact plain_ints | (refine le_maxLen ?_; omega) | (refine za9 ⟨?_,?_⟩) | (simp only [go_sem,Qc,Qb,zb1,zb2,forall_eq]; done)))
   . have c1:=ih (n / 10) (by omega) (by omega)
     have hs:=numN_size 14 (n / 10) (by omega)
     have hd:=digS_size (n % 10) (by omega)
     have e1 : (n : Int).tdiv 10=((n / 10 : Nat) : Int):=by rw [Int.tdiv_eq_ediv_of_nonneg (by omega)]; omega
     have e2 : (n : Int).tmod 10=((n % 10 : Nat) : Int):=by rw [Int.tmod_eq_emod_of_nonneg (by omega)]; omega
     have e3 : (((n % 10 : Nat) : Int) + 1).toNat=n % 10 + 1:=by omega
     rw [numN_ge h]
     unfold digS at hd ⊢
     refine Ctr.of (n:=25) (rs:=[.tmp 2]) Try.func184 rfl rfl Try.ntmps184 rfl rfl (by kernel_rfl) Try.checked.mixed ?_
     simp (disch:=first | omega | decide +kernel) only [e1,e2,e3,Int.toNat_natCast,go_sem,Qa,Qb,Qc,Qd,Qe,↓reduceIte,reduceCtorEq,Qf,Qg,Qh]
     (repeat' (first | ((first | (refine gsel_split (fun q' => ?_) (fun q' => ?_)<;>(have h':=q')<;>(try simp only [za1,za2,Ba,Bb,za3,ne_eq,za4,za5,za6,Ia,Ib,Ic,Ie,Da,Bc,Bh,Be,za7,za8] at h')<;>try (exfalso; omega)) | (have q':=trivial; first | refine callX_new (c1) rfl (by decide) ?_ | refine callY_new (c1) rfl ?_ | refine hE _ _ ret_ne ?_ | refine hE _ _ exit_ne ?_))<;>(try simp (disch:=first | omega | decide +kernel) only [q',e1,e2,e3,Int.toNat_natCast,go_sem,Qa,Qb,Qc,Qd,Qe,↓reduceIte,reduceCtorEq,Qf,Qg,Qh])<;>clear q') | refine hN _ ?_ ?_ Wk.kk | with_reducible refine And.intro ?_ ?_ | with_reducible omega | exact ok_ints | exact cells_ints | exact no_mem | with_reducible exact plain_ints | (refine le_maxLen ?_; omega) | (refine za9 ⟨?_,?_⟩) | (simp only [go_sem,Qc,Qb,zb1,zb2,forall_eq]; done)))
theorem l1Num_ok (n : Int) (hn : -1000000000000000 < n∧n < 1000000000000000) : Ctr Try.prog 184 [.int .i64 n] false (.d (.str (numS n))) []:=by
 by_cases h : n < 0
 . have c1:=l1NumN_ok n.natAbs (by omega)
   have hs:=numN_size 14 n.natAbs (by omega)
   have e1 : (0 - n)=((n.natAbs : Nat) : Int):=by omega
   rw [numS,if_pos h]
   refine Ctr.of (n:=25) (rs:=[.tmp 2]) Try.func184 rfl rfl Try.ntmps184 rfl rfl (by kernel_rfl) Try.checked.mixed ?_
   simp (disch:=first | omega | decide +kernel) only [e1,go_sem,Qa,Qb,Qc,Qd,Qe,↓reduceIte,reduceCtorEq,Qf,Qg,Qh]
   (repeat' (first | ((first | (refine gsel_split (fun q' => ?_) (fun q' => ?_)<;>(have h':=q')<;>(try simp only [za1,za2,Ba,Bb,za3,ne_eq,za4,za5,za6,Ia,Ib,Ic,Ie,Da,Bc,Bh,Be,za7,za8] at h')<;>try (exfalso; omega)) | (have q':=trivial; first | refine callX_new (c1) rfl (by decide) ?_ | refine callY_new (c1) rfl ?_ | refine hE _ _ ret_ne ?_ | refine hE _ _ exit_ne ?_))<;>(try simp (disch:=first | omega | decide +kernel) only [q',e1,go_sem,Qa,Qb,Qc,Qd,Qe,↓reduceIte,reduceCtorEq,Qf,Qg,Qh])<;>clear q') | refine hN _ ?_ ?_ Wk.kk | with_reducible refine And.intro ?_ ?_ | with_reducible omega | exact ok_ints | exact cells_ints | exact no_mem | with_reducible exact plain_ints | (refine le_maxLen ?_; omega) | (refine za9 ⟨?_,?_⟩) | (simp only [go_sem,Qc,Qb,zb1,zb2,forall_eq]; done)))
 . obtain ⟨k,rfl⟩:=Int.eq_ofNat_of_zero_le (show 0<=n by omega)
   have c1:=l1NumN_ok k (by omega)
   rw [numS,if_neg h]
   exact c1
end Abs.Y

namespace Abs
open Go Go.RowKit
theorem Ok.loopO {P : Program} {N : Nat} {c : Code} {Q : Exit->St->Prop} {st : St} (I : Nat->St->Prop) (n0 : Nat) {st0 : St} (hw : Wk N st st0) (h0 : I n0 st0) (hr : ∀ n st,I n st->Ok P N c (loopQ N I n Q) st) : Ok P N (.loop c) Q st:=by
 intro h1 h2 Z B M w0 a w ⟨β,φ,hs⟩
 refine ⟨fun n a w => ∃ st,Sim Z N B M w0 st a w∧I n st,n0,⟨st0,hw _ _ _ _ _ _ _ _ hs,h0⟩,fun n a w ⟨st',hs',hI⟩ => ?_⟩
 refine sw_mono c (hr n st' hI h1 h2 Z B M w0 a w hs') fun e a w hl => ?_
 cases e with
 | normal =>
   obtain ⟨st1,⟨β1,φ1,hs1⟩,m,st2,hlt,hw2,hI2⟩:=hl
   exact ⟨m,hlt,st2,hw2 _ _ _ _ _ _ _ _ hs1,hI2⟩
 | exit id => exact hl
 | goto l => exact hl
 | ret => exact hl
 | panic ch => exact hl
 | outgrown => exact hl
theorem Ok.loopNO {P : Program} {N : Nat} {c : Code} {Q : Exit->St->Prop} {S : List (Nat × AV)} {O : List (Nat × AO)} {α : Type} (ks : List Nat) (u : Nat->α->List (Nat × AV)) (ou : Nat->α->List (Nat × AO)) (len : Nat) (I : Nat->α->Prop)
 (a0 : α) (hI : I 0 a0) (hw : Wk N ⟨S,O⟩ (updSt ks (u 0 a0) (ou 0 a0) S O))
 (hr : ∀ (R : Exit->St->Prop) (i : Nat) (a : α),(∀ a' st,i < len->I (i + 1) a'->Wk N st (updSt ks (u (i + 1) a') (ou (i + 1) a') S O)->R .normal st)->(∀ e st,e ≠ .normal->Q e st->R e st)->i<=len->I i a ->
  Ok P N c R (updSt ks (u i a) (ou i a) S O)) : Ok P N (.loop c) Q ⟨S,O⟩ :=
 Ok.loopO (fun n st => ∃ i a,n=len - i∧i<=len∧I i a∧st=updSt ks (u i a) (ou i a) S O) len hw ⟨0,a0,rfl,Nat.zero_le _,hI,rfl⟩ fun n st ⟨i,a,h1,h2,hI,h⟩ => by
  subst h
  refine hr _ i a (fun a' st hlt hI' hw' => ⟨len - (i + 1),_,by omega,hw',i + 1,a',rfl,hlt,hI',rfl⟩) (fun e st h1 h2 => ?_) h2 hI
  cases e<;>first | exact absurd rfl h1 | exact h2
theorem Ok.block {P : Program} {N id : Nat} {c : Code} {Q : Exit->St->Prop} {st : St} (h : Ok P N c (blockQ id Q) st) : Ok P N (.block id c) Q st:=fun h1 h2 Z B M w0 a w hs => by
 refine sw_mono c (h h1 h2 Z B M w0 a w hs) fun e a w hl => ?_
 cases e with
 | exit id' =>
   obtain ⟨st',hs',hk⟩:=hl
   simp only [blockQ] at hk
   simp only [Exit.inBlock]
   split
   . rename_i e; rw [if_pos e] at hk; exact ⟨st',hs',hk⟩
   . rename_i e; rw [if_neg e] at hk; exact ⟨st',hs',hk⟩
 | normal => exact hl
 | goto l => exact hl
 | ret => exact hl
 | panic ch => exact hl
 | outgrown => exact hl
end Abs

namespace Abs
open Go Go.Proofs
theorem callX_rels {P : Program} {N f cavs st dst K} {xs : List AV} {sh : Bool} {Q : AV->Prop} (hs : CtrR P f xs [] [] sh fun r oo => oo=[]∧Q r) (hp : passM P (delL [] st.o) (nth []) sh cavs xs) (hd : dstB N dst)
 (hK : ∀ r,Q r->K (impM st dst (nth []) [] r [])) : callX P N f cavs dst K st :=
 callX_rel [] [] [] hs hp trivial (by simp [namesI,keysO]) hd fun r oo ⟨e,hQ⟩ => by subst e; exact ⟨by simp [namesOK,keysO],hK r hQ⟩
theorem endF {P : Program} {N : Nat} {rs u sh} {R : AV->List (Nat × AO)->Prop} {st : St} (js : List Nat) (h : retR P rs u [] sh R .ret (frzs js st)) : ∃ st',Wk N st st'∧retR P rs u [] sh R .ret st' :=
 ⟨_,fun _ β φ _ _ _ _ _ hs => ⟨β,φ,hs.frzs⟩,h⟩
theorem retR_cv {P : Program} {a j b : Nat} {t e : TypeId} {cells : List AV} {ds : List D} {y : D} {st : St} {u : Nat->Value} {R : AV->List (Nat × AO)->Prop} (h : lk a st.s=some (.p j 0)) (h' : lk b st.s=some (.d y)) (hj : lk j st.o=some (.box e cells)) (hag : aggT P t=true) (hn : P.cellsOf t=cells.length) (hd : allD cells=some ds)
 (hu : (P.underlying t).isSome=true) (hR : R (.tup [.d (.agg ds),.d y]) []) : retR P [.cell a t,.tmp b] u [] true R .ret st:=by
 have hl : (lk a st.s).bind (loadV P st.o t)=some (0 + P.cellsOf t<=cells.length∧(P.underlying t).isSome=true,.d (.agg ds)):=by
  rw [h,Option.bind_some,loadV,hj]
  simp only [hag,if_true,List.drop_zero,hn,List.take_length,hd]
 refine ⟨_,_,hR,?_⟩
 simp only [retM,resV,hl,h']
 exact ⟨⟨hu,⟨by omega,hu⟩,trivial⟩,⟨fun q => q,rfl,by simp,by simp,trivial⟩,.inl trivial⟩
theorem retR_c {P : Program} {a j : Nat} {t e : TypeId} {cells : List AV} {ds : List D} {st : St} {u : Nat->Value} {R : AV->List (Nat × AO)->Prop} (h : lk a st.s=some (.p j 0)) (hj : lk j st.o=some (.box e cells)) (hag : aggT P t=true) (hn : P.cellsOf t=cells.length) (hd : allD cells=some ds)
 (hu : (P.underlying t).isSome=true) (hR : R (.d (.agg ds)) []) : retR P [.cell a t] u [] true R .ret st:=by
 have hl : (lk a st.s).bind (loadV P st.o t)=some (0 + P.cellsOf t<=cells.length∧(P.underlying t).isSome=true,.d (.agg ds)):=by
  rw [h,Option.bind_some,loadV,hj]
  simp only [hag,if_true,List.drop_zero,hn,List.take_length,hd]
 refine ⟨_,_,hR,?_⟩
 simp only [retM,resV,hl]
 exact ⟨⟨hu,⟨by omega,hu⟩,trivial⟩,⟨fun q => q,rfl,by simp,by simp,trivial⟩,.inl trivial⟩
theorem retR_p {P : Program} {a : Nat} {x : D} {st : St} {u : Nat->Value} {R : AV->List (Nat × AO)->Prop} (h : lk a st.s=some (.d x)) (hx : x.plain=true) (hR : R (.d x) []) : retR P [.tmp a] u [] false R .ret st:=by
 refine ⟨_,_,hR,?_⟩
 simp only [retM,resV,h]
 exact ⟨trivial,⟨fun q => q,rfl,by simp,by simp,trivial⟩,.inr ⟨hx,trivial⟩⟩
theorem retR_sb {P : Program} {a b i : Nat} {y : D} {o1 : AO} {st : St} {u : Nat->Value} {R : AV->List (Nat × AO)->Prop} (h : lk a st.s=some (.sl i)) (h' : lk b st.s=some (.d y)) (k1 : lk i st.o=some o1) (r1 : ∀ f,o1.ren f=o1)
 (hR : R (.tup [.sl 1,.d y]) [(1,o1)]) : retR P [.tmp a,.tmp b] u [] true R .ret st:=by
 refine ⟨_,_,hR,?_⟩
 simp only [retM,resV,h,h']
 refine ⟨trivial,⟨fun _ => i,rfl,?_,?_,trivial⟩,.inl trivial⟩
 . intro p hp
   obtain rfl:=List.mem_singleton.1 hp
   simpa [r1] using k1
 . intro p hp q hq _
   obtain rfl:=List.mem_singleton.1 hp
   obtain rfl:=List.mem_singleton.1 hq
   rfl
theorem retR_dd {P : Program} {a b : Nat} {x y : D} {st : St} {u : Nat->Value} {R : AV->List (Nat × AO)->Prop} (h : lk a st.s=some (.d x)) (h' : lk b st.s=some (.d y)) (hR : R (.tup [.d x,.d y]) []) : retR P [.tmp a,.tmp b] u [] true R .ret st:=by
 refine ⟨_,_,hR,?_⟩
 simp only [retM,resV,h,h']
 exact ⟨trivial,⟨fun q => q,rfl,by simp,by simp,trivial⟩,.inl trivial⟩
end Abs
namespace Abs.Y
open Go Go.Proofs Abs
set_option maxRecDepth 100000

def NewR (f : FuncId) (xs : List AV) (Q : List Int × Bool->Prop) : Prop:=CtrR Try.prog f xs [] [] true fun r oo => ∃ x : List Int × Bool,r=.tup [.sl 1,.d (.bool x.2)]∧oo=[(1,.arr 3 1 (x.1.map (.int .i64)))]∧Q x
theorem callX_newR {N f cavs st d K xs Q} (hs : NewR f xs Q) (hp : passM Try.prog (delL [] st.o) (nth []) true cavs xs) (hd : d < N)
 (hK : ∀ x : List Int × Bool,Q x->K (impM st (some d) (nth [100000 * (d + 1),100000 * (d + 1) + 1]) [100000 * (d + 1) + 1] (.tup [.sl 1,.d (.bool x.2)]) [(1,.arr 3 1 (x.1.map (.int .i64)))])) : callX Try.prog N f cavs (some d) K st :=
 callX_rel [] [100000 * (d + 1),100000 * (d + 1) + 1] [100000 * (d + 1) + 1] hs hp trivial (by simp [namesI,keysO]) hd fun r oo ⟨x,e1,e2,hQ⟩ => by
  subst e1; subst e2; exact ⟨by simp [namesOK,keysO,nth],hK x hQ⟩
def byte (s : ByteArray) (i : Nat) : Int:=(s.data.toList.getD i 0).toNat
def splA (s : ByteArray) (b : Int) : Nat->List ByteArray × Nat
 | 0 => ([],0)
 | i + 1 => if byte s i=b then ((splA s b i).1++[s.extract (splA s b i).2 i],i + 1) else splA s b i
def splI (s : ByteArray) (b : Int) : List ByteArray:=(splA s b s.size).1++[s.extract (splA s b s.size).2 s.size]
theorem splA_bd (s : ByteArray) (b : Int) : ∀ i,i<=s.size->(splA s b i).1.length<=i∧(splA s b i).2<=i∧∀ p ∈ (splA s b i).1,p.size<=s.size
 | 0,_ => ⟨Nat.le_refl _,Nat.le_refl _,fun _ h => nomatch h⟩
 | i + 1, h => by
   obtain ⟨h1,h2,h3⟩:=splA_bd s b i (by omega)
   rw [splA]
   split
   . refine ⟨by simp; omega,Nat.le_refl _,fun p hp => ?_⟩
     rcases List.mem_append.1 hp with hp | hp
     . exact h3 p hp
     . rw [List.mem_singleton] at hp; subst hp; rw [ByteArray.size_extract]; omega
   . exact ⟨by omega,by omega,h3⟩
theorem splI_bd (s : ByteArray) (b : Int) : 1<=(splI s b).length∧(splI s b).length<=s.size + 1∧∀ p ∈ splI s b,p.size<=s.size:=by
 obtain ⟨h1,h2,h3⟩:=splA_bd s b s.size (Nat.le_refl _)
 refine ⟨by simp [splI],by simp [splI]; omega,fun p hp => ?_⟩
 rcases List.mem_append.1 hp with hp | hp
 . exact h3 p hp
 . rw [List.mem_singleton] at hp; subst hp; rw [ByteArray.size_extract]; omega
theorem plain_strs (ps : List ByteArray) : ∀ x ∈ ps.map D.str,x.plain=true:=fun x hx => by obtain ⟨p,_,rfl⟩:=List.mem_map.1 hx; rfl
theorem l1Split_ok (s : ByteArray) (b : Int) (hs : s.size<=1000000) : Ctr Try.prog 167 [.str s,.int .u8 b] false (.sl 0) [(0,.arr 9 1 ((splI s b).map .str))]:=by
 refine Ctr.of (n:=35) (rs:=[.tmp 4]) Try.func167 rfl rfl Try.ntmps167 rfl rfl (by kernel_rfl) Try.checked.mixed ?_
 simp (disch:=first | omega | decide +kernel) only [go_sem,Qa,Qb,Qc,Qd,Qe,↓reduceIte,reduceCtorEq,Qf,Qg,Qh]
 (repeat' (first | ((first | (refine gsel_split (fun q' => ?_) (fun q' => ?_)<;>(have h':=q')<;>(try simp only [za1,za2,Ba,Bb,za3,ne_eq,za4,za5,za6,Ia,Ib,Ic,Ie,Da,Bc,Bh,Be,za7,za8] at h')<;>try (exfalso; omega)) | (have q':=trivial; first | refine hE _ _ ret_ne ?_ | refine hE _ _ exit_ne ?_))<;>(try simp (disch:=first | omega | decide +kernel) only [q',go_sem,Qa,Qb,Qc,Qd,Qe,↓reduceIte,reduceCtorEq,Qf,Qg,Qh])<;>clear q') | refine hN _ ?_ ?_ Wk.kk | with_reducible refine And.intro ?_ ?_ | with_reducible omega | exact ok_ints | exact cells_ints | exact no_mem | with_reducible exact plain_ints | (refine le_maxLen ?_; omega) | (refine za9 ⟨?_,?_⟩) | (simp only [go_sem,Qc,Qb,zb1,zb2,forall_eq]; done)))
 refine Ok.loopN [34,33,32,31,30,29,28,27,26,25,24,23,22,21,20,19,18,17,16,15,14,13,12,11,10,9,8,7,6,5,4,3,2] (fun i (a : List ByteArray × Nat) => [(7,.d (.int .i64 (i : Nat))),(6,.d (.int .i64 (a.2 : Nat))),(5,.sl 8)]) (fun _ (a : List ByteArray × Nat) => [(8,.arr 9 1 (a.1.map .str))]) s.size (fun i a => a=splA s b i) ([],0) rfl (Wk.kk) ?_
 rintro R i ⟨ps,k⟩ hN hE hi ha
 have hb:=splA_bd s b i hi
 rw [← ha] at hb
 obtain ⟨hb1,hb2,hb3⟩:=hb
 dsimp only at hb1 hb2 hb3 ⊢
 by_cases hlt : i < s.size
 . have hsu : splA s b (i + 1)=if byte s i=b then (ps++[s.extract k i],i + 1) else (ps,k):=by rw [splA,← ha]
   unfold byte at hsu
   have e1 : ((i : Int) + 1)=((i + 1 : Nat) : Int):=by omega
   by_cases hbb : ((s.data.toList.getD i 0).toNat : Int)=b
   . rw [if_pos hbb] at hsu
     simp (disch:=first | omega | decide +kernel) only [Int.toNat_natCast,go_sem,Qa,Qb,Qc,Qd,Qe,↓reduceIte,reduceCtorEq,Qf,Qg,Qh]
     (repeat' (first | ((first | (refine gsel_split (fun q' => ?_) (fun q' => ?_)<;>(have h':=q')<;>(try simp only [za1,za2,Ba,Bb,za3,ne_eq,za4,za5,za6,Ia,Ib,Ic,Ie,Da,Bc,Bh,Be,za7,za8] at h')<;>try (exfalso; omega)) | (have q':=trivial; first | refine hE _ _ ret_ne ?_ | refine hE _ _ exit_ne ?_))<;>(try simp (disch:=first | omega | decide +kernel) only [q',Int.toNat_natCast,go_sem,Qa,Qb,Qc,Qd,Qe,↓reduceIte,reduceCtorEq,Qf,Qg,Qh])<;>clear q') | refine hN _ ?_ ?_ Wk.kk | with_reducible refine And.intro ?_ ?_ | with_reducible omega | exact ok_ints | exact cells_ints | exact no_mem | with_reducible exact plain_ints | (refine le_maxLen ?_; omega) | (refine za9 ⟨?_,?_⟩) | (simp only [go_sem,Qc,Qb,zb1,zb2,forall_eq]; done)))
     exact hN (ps++[s.extract k i],i + 1) _ hlt hsu.symm (by refine Wk.auto ?_ ?_<;>simp [extraK,lk,killL,St.kill,wipeO,wipeS,AV.has,AV.hasL,AO.wipe,List.map_set,updSt,insL,dropS,ins,List.map_append,List.map_cons,List.map_nil])
   . rw [if_neg hbb] at hsu
     simp (disch:=first | omega | decide +kernel) only [Int.toNat_natCast,go_sem,Qa,Qb,Qc,Qd,Qe,↓reduceIte,reduceCtorEq,Qf,Qg,Qh]
     (repeat' (first | ((first | (refine gsel_split (fun q' => ?_) (fun q' => ?_)<;>(have h':=q')<;>(try simp only [za1,za2,Ba,Bb,za3,ne_eq,za4,za5,za6,Ia,Ib,Ic,Ie,Da,Bc,Bh,Be,za7,za8] at h')<;>try (exfalso; omega)) | (have q':=trivial; first | refine hE _ _ ret_ne ?_ | refine hE _ _ exit_ne ?_))<;>(try simp (disch:=first | omega | decide +kernel) only [q',Int.toNat_natCast,go_sem,Qa,Qb,Qc,Qd,Qe,↓reduceIte,reduceCtorEq,Qf,Qg,Qh])<;>clear q') | refine hN _ ?_ ?_ Wk.kk | with_reducible refine And.intro ?_ ?_ | with_reducible omega | exact ok_ints | exact cells_ints | exact no_mem | with_reducible exact plain_ints | (refine le_maxLen ?_; omega) | (refine za9 ⟨?_,?_⟩) | (simp only [go_sem,Qc,Qb,zb1,zb2,forall_eq]; done)))
     exact hN (ps,k) _ hlt hsu.symm (by refine Wk.auto ?_ ?_<;>simp [extraK,lk,killL,St.kill,wipeO,wipeS,AV.has,AV.hasL,AO.wipe,List.map_set,updSt,insL,dropS,ins,])
 . obtain rfl : i=s.size:=by omega
   have hf : splI s b=ps++[s.extract k s.size]:=by rw [splI,← ha]
   simp (disch:=first | omega | decide +kernel) only [Int.toNat_natCast,go_sem,Qa,Qb,Qc,Qd,Qe,↓reduceIte,reduceCtorEq,Qf,Qg,Qh]
   (repeat' (first | ((first | (refine gsel_split (fun q' => ?_) (fun q' => ?_)<;>(have h':=q')<;>(try simp only [za1,za2,Ba,Bb,za3,ne_eq,za4,za5,za6,Ia,Ib,Ic,Ie,Da,Bc,Bh,Be,za7,za8] at h')<;>try (exfalso; omega)) | (have q':=trivial; first | refine hE _ _ ret_ne ?_ | refine hE _ _ exit_ne ?_))<;>(try simp (disch:=first | omega | decide +kernel) only [q',Int.toNat_natCast,go_sem,Qa,Qb,Qc,Qd,Qe,↓reduceIte,reduceCtorEq,Qf,Qg,Qh])<;>clear q') | refine hN _ ?_ ?_ Wk.kk | with_reducible refine And.intro ?_ ?_ | with_reducible omega | exact ok_ints | exact cells_ints | exact no_mem | with_reducible exact plain_ints | (refine le_maxLen ?_; omega) | (refine za9 ⟨?_,?_⟩) | (simp only [go_sem,Qc,Qb,zb1,zb2,forall_eq]; done)))
   have hpl:=plain_strs (ps++[s.extract k s.size])
   rw [hf]
   simp only [List.map_append,List.map_cons,List.map_nil] at hpl ⊢
   exact ret_sl 8 rfl rfl hpl
@[reducible] def QN : AV->Prop:=fun r => ∃ x : Int × Bool,r=.tup [.d (.int .i64 x.1),.d (.bool x.2)]∧-999999<=x.1∧x.1<=999999
theorem wrap_u8 (x : Int) (h1 : 0<=x) (h2 : x < 256) : IntKind.u8.wrap x=x:=by
 simp only [IntKind.wrap,IntKind.signed,IntKind.bits]
 simp; omega
theorem l1Read_ok (s : ByteArray) (hs : s.size<=1000000) : CtrR Try.prog 168 [.d (.str s)] [] [] true fun r oo => oo=[]∧QN r:=by
 have c1:=fun x : Int => l1In_ok x 1 6
 have hex : (s.extract 1 s.size).size=s.size - 1:=by rw [ByteArray.size_extract]; omega
 refine CtrR.of (n:=58) (rs:=[.tmp 2,.tmp 3]) Try.func168 rfl rfl Try.ntmps168 rfl rfl (by kernel_rfl) Try.checked.mixed ?_; intro u
 have t1 : Int.toNat 1=1:=rfl
 simp (disch:=first | omega | decide +kernel) only [Int.toNat_natCast,t1,go_sem,Qa,Qb,Qc,Qd,Qe,↓reduceIte,reduceCtorEq,Qf,Qg,Qh]
 (repeat' (first | ((first | (refine gsel_split (fun q' => ?_) (fun q' => ?_)<;>(have h':=q')<;>(try simp only [za1,za2,Ba,Bb,za3,ne_eq,za4,za5,za6,Ia,Ib,Ic,Ie,Da,Bc,Bh,Be,za7,za8] at h')<;>try (exfalso; omega)) | (have q':=trivial; first | refine callX_new (c1 _) rfl (by decide) ?_ | refine callY_new (c1 _) rfl ?_ | refine hE _ _ ret_ne ?_ | refine hE _ _ exit_ne ?_))<;>(try simp (disch:=first | omega | decide +kernel) only [q',Int.toNat_natCast,t1,go_sem,Qa,Qb,Qc,Qd,Qe,↓reduceIte,reduceCtorEq,Qf,Qg,Qh])<;>clear q') | refine hN _ ?_ ?_ Wk.kk | with_reducible refine And.intro ?_ ?_ | with_reducible omega | exact ok_ints | exact cells_ints | exact no_mem | with_reducible exact plain_ints | (refine le_maxLen ?_; omega) | (refine za9 ⟨?_,?_⟩) | (simp only [go_sem,Qc,Qb,zb1,zb2,forall_eq]; done)))
 all_goals (first | exact retR_dd rfl rfl ⟨rfl,(0,false),rfl,by decide,by decide⟩ | skip)
 . refine Ok.loopN [57,56,55,54,53,52,51,50,49,48,47,46,45,44,43,42,41,40,39,38,37,36,35,34,33,32,31,30,29,28,27,26,25,24,23,22,21,20,19,18,17,16,15,14,13,12,11,10,9,8,7,6,5] (fun i (n : Int) => [(6,.d (.int .i64 (i : Nat))),(5,.d (.int .i64 n))]) (fun _ _ => []) (s.extract 1 s.size).size (fun i n => 0<=n∧n + 1<=10 ^ i) 0 (by simp) (Wk.kk) ?_
   rintro R i n hN hE hi ⟨hn1,hn2⟩
   have hp : ((10 : Int) ^ i)<=1000000:=by
    have : ((10 ^ i : Nat) : Int)<=((10 ^ 6 : Nat) : Int):=Ib.2 (Nat.pow_le_pow_right (by decide) (by omega))
    simpa using this
   by_cases hlt : i < (s.extract 1 s.size).size
   . have hb : ((((s.extract 1 s.size)).data.toList.getD i 0).toNat : Int) < 256:=Ia.2 (UInt8.toNat_lt _)
     have hpw : ((10 : Int) ^ (i + 1))=10 ^ i * 10:=Int.pow_succ ..
     simp (disch:=first | omega | decide +kernel) only [Int.toNat_natCast,go_sem,Qa,Qb,Qc,Qd,Qe,↓reduceIte,reduceCtorEq,Qf,Qg,Qh]
     (repeat' (first | ((first | (refine gsel_split (fun q' => ?_) (fun q' => ?_)<;>(have h':=q')<;>(try simp only [za1,za2,Ba,Bb,za3,ne_eq,za4,za5,za6,Ia,Ib,Ic,Ie,Da,Bc,Bh,Be,za7,za8] at h')<;>try (exfalso; omega)) | (have q':=trivial; first | refine hE _ _ ret_ne ?_ | refine hE _ _ exit_ne ?_))<;>(try simp (disch:=first | omega | decide +kernel) only [q',Int.toNat_natCast,wrap_u8,go_sem,Qa,Qb,Qc,Qd,Qe,↓reduceIte,reduceCtorEq,Qf,Qg,Qh])<;>clear q') | refine hN _ ?_ ?_ Wk.kk | with_reducible refine And.intro ?_ ?_ | with_reducible omega | exact ok_ints | exact cells_ints | exact no_mem | with_reducible exact plain_ints | (refine le_maxLen ?_; omega) | (refine za9 ⟨?_,?_⟩) | (simp only [go_sem,Qc,Qb,zb1,zb2,forall_eq]; done)))
     all_goals (first | exact retR_dd rfl rfl ⟨rfl,(0,false),rfl,by decide,by decide⟩ | (refine hN (10 * n + (((s.extract 1 s.size).data.toList.getD i 0).toNat - 48)) _ hlt ⟨by omega,by omega⟩ (by refine Wk.auto ?_ ?_<;>simp [extraK,lk,killL,St.kill,wipeO,wipeS,AV.has,AV.hasL,AO.wipe,List.map_set,updSt,insL,dropS,ins,])))
   . obtain rfl : i=(s.extract 1 s.size).size:=by omega
     have c2:=l1Num_ok n (by omega)
     have c3:=l1Num_ok (0 - n) (by omega)
     simp (disch:=first | omega | decide +kernel) only [Int.toNat_natCast,go_sem,Qa,Qb,Qc,Qd,Qe,↓reduceIte,reduceCtorEq,Qf,Qg,Qh]
     (repeat' (first | ((first | (refine gsel_split (fun q' => ?_) (fun q' => ?_)<;>(have h':=q')<;>(try simp only [za1,za2,Ba,Bb,za3,ne_eq,za4,za5,za6,Ia,Ib,Ic,Ie,Da,Bc,Bh,Be,za7,za8] at h')<;>try (exfalso; omega)) | (have q':=trivial; first | refine callX_new (c2) rfl (by decide) ?_ | refine callY_new (c2) rfl ?_ | refine callX_new (c3) rfl (by decide) ?_ | refine callY_new (c3) rfl ?_ | refine hE _ _ ret_ne ?_ | refine hE _ _ exit_ne ?_))<;>(try simp (disch:=first | omega | decide +kernel) only [q',Int.toNat_natCast,go_sem,Qa,Qb,Qc,Qd,Qe,↓reduceIte,reduceCtorEq,Qf,Qg,Qh])<;>clear q') | refine hN _ ?_ ?_ Wk.kk | with_reducible refine And.intro ?_ ?_ | with_reducible omega | exact ok_ints | exact cells_ints | exact no_mem | with_reducible exact plain_ints | (refine le_maxLen ?_; omega) | (refine za9 ⟨?_,?_⟩) | (simp only [go_sem,Qc,Qb,zb1,zb2,forall_eq]; done)))
     all_goals (first | exact retR_dd rfl rfl ⟨rfl,(0,false),rfl,by decide,by decide⟩ | exact retR_dd rfl rfl ⟨rfl,(n,true),rfl,by omega,by omega⟩ | exact retR_dd rfl rfl ⟨rfl,(0 - n,true),rfl,by omega,by omega⟩)
 . refine Ok.loopN [57,56,55,54,53,52,51,50,49,48,47,46,45,44,43,42,41,40,39,38,37,36,35,34,33,32,31,30,29,28,27,26,25,24,23,22,21,20,19,18,17,16,15,14,13,12,11,10,9,8,7,6,5] (fun i (n : Int) => [(6,.d (.int .i64 (i : Nat))),(5,.d (.int .i64 n))]) (fun _ _ => []) s.size (fun i n => 0<=n∧n + 1<=10 ^ i) 0 (by simp) (Wk.kk) ?_
   rintro R i n hN hE hi ⟨hn1,hn2⟩
   have hp : ((10 : Int) ^ i)<=1000000:=by
    have : ((10 ^ i : Nat) : Int)<=((10 ^ 6 : Nat) : Int):=Ib.2 (Nat.pow_le_pow_right (by decide) (by omega))
    simpa using this
   by_cases hlt : i < s.size
   . have hb : (((s).data.toList.getD i 0).toNat : Int) < 256:=Ia.2 (UInt8.toNat_lt _)
     have hpw : ((10 : Int) ^ (i + 1))=10 ^ i * 10:=Int.pow_succ ..
     simp (disch:=first | omega | decide +kernel) only [Int.toNat_natCast,go_sem,Qa,Qb,Qc,Qd,Qe,↓reduceIte,reduceCtorEq,Qf,Qg,Qh]
     (repeat' (first | ((first | (refine gsel_split (fun q' => ?_) (fun q' => ?_)<;>(have h':=q')<;>(try simp only [za1,za2,Ba,Bb,za3,ne_eq,za4,za5,za6,Ia,Ib,Ic,Ie,Da,Bc,Bh,Be,za7,za8] at h')<;>try (exfalso; omega)) | (have q':=trivial; first | refine hE _ _ ret_ne ?_ | refine hE _ _ exit_ne ?_))<;>(try simp (disch:=first | omega | decide +kernel) only [q',Int.toNat_natCast,wrap_u8,go_sem,Qa,Qb,Qc,Qd,Qe,↓reduceIte,reduceCtorEq,Qf,Qg,Qh])<;>clear q') | refine hN _ ?_ ?_ Wk.kk | with_reducible refine And.intro ?_ ?_ | with_reducible omega | exact ok_ints | exact cells_ints | exact no_mem | with_reducible exact plain_ints | (refine le_maxLen ?_; omega) | (refine za9 ⟨?_,?_⟩) | (simp only [go_sem,Qc,Qb,zb1,zb2,forall_eq]; done)))
     all_goals (first | exact retR_dd rfl rfl ⟨rfl,(0,false),rfl,by decide,by decide⟩ | (refine hN (10 * n + ((s.data.toList.getD i 0).toNat - 48)) _ hlt ⟨by omega,by omega⟩ (by refine Wk.auto ?_ ?_<;>simp [extraK,lk,killL,St.kill,wipeO,wipeS,AV.has,AV.hasL,AO.wipe,List.map_set,updSt,insL,dropS,ins,])))
   . obtain rfl : i=s.size:=by omega
     have c2:=l1Num_ok n (by omega)
     have c3:=l1Num_ok (0 - n) (by omega)
     simp (disch:=first | omega | decide +kernel) only [Int.toNat_natCast,go_sem,Qa,Qb,Qc,Qd,Qe,↓reduceIte,reduceCtorEq,Qf,Qg,Qh]
     (repeat' (first | ((first | (refine gsel_split (fun q' => ?_) (fun q' => ?_)<;>(have h':=q')<;>(try simp only [za1,za2,Ba,Bb,za3,ne_eq,za4,za5,za6,Ia,Ib,Ic,Ie,Da,Bc,Bh,Be,za7,za8] at h')<;>try (exfalso; omega)) | (have q':=trivial; first | refine callX_new (c2) rfl (by decide) ?_ | refine callY_new (c2) rfl ?_ | refine callX_new (c3) rfl (by decide) ?_ | refine callY_new (c3) rfl ?_ | refine hE _ _ ret_ne ?_ | refine hE _ _ exit_ne ?_))<;>(try simp (disch:=first | omega | decide +kernel) only [q',Int.toNat_natCast,go_sem,Qa,Qb,Qc,Qd,Qe,↓reduceIte,reduceCtorEq,Qf,Qg,Qh])<;>clear q') | refine hN _ ?_ ?_ Wk.kk | with_reducible refine And.intro ?_ ?_ | with_reducible omega | exact ok_ints | exact cells_ints | exact no_mem | with_reducible exact plain_ints | (refine le_maxLen ?_; omega) | (refine za9 ⟨?_,?_⟩) | (simp only [go_sem,Qc,Qb,zb1,zb2,forall_eq]; done)))
     all_goals (first | exact retR_dd rfl rfl ⟨rfl,(0,false),rfl,by decide,by decide⟩ | exact retR_dd rfl rfl ⟨rfl,(n,true),rfl,by omega,by omega⟩ | exact retR_dd rfl rfl ⟨rfl,(0 - n,true),rfl,by omega,by omega⟩)
 . refine Ok.loopN [57,56,55,54,53,52,51,50,49,48,47,46,45,44,43,42,41,40,39,38,37,36,35,34,33,32,31,30,29,28,27,26,25,24,23,22,21,20,19,18,17,16,15,14,13,12,11,10,9,8,7,6,5] (fun i (n : Int) => [(6,.d (.int .i64 (i : Nat))),(5,.d (.int .i64 n))]) (fun _ _ => []) s.size (fun i n => 0<=n∧n + 1<=10 ^ i) 0 (by simp) (Wk.kk) ?_
   rintro R i n hN hE hi ⟨hn1,hn2⟩
   have hp : ((10 : Int) ^ i)<=1000000:=by
    have : ((10 ^ i : Nat) : Int)<=((10 ^ 6 : Nat) : Int):=Ib.2 (Nat.pow_le_pow_right (by decide) (by omega))
    simpa using this
   by_cases hlt : i < s.size
   . have hb : (((s).data.toList.getD i 0).toNat : Int) < 256:=Ia.2 (UInt8.toNat_lt _)
     have hpw : ((10 : Int) ^ (i + 1))=10 ^ i * 10:=Int.pow_succ ..
     simp (disch:=first | omega | decide +kernel) only [Int.toNat_natCast,go_sem,Qa,Qb,Qc,Qd,Qe,↓reduceIte,reduceCtorEq,Qf,Qg,Qh]
     (repeat' (first | ((first | (refine gsel_split (fun q' => ?_) (fun q' => ?_)<;>(have h':=q')<;>(try simp only [za1,za2,Ba,Bb,za3,ne_eq,za4,za5,za6,Ia,Ib,Ic,Ie,Da,Bc,Bh,Be,za7,za8] at h')<;>try (exfalso; omega)) | (have q':=trivial; first | refine hE _ _ ret_ne ?_ | refine hE _ _ exit_ne ?_))<;>(try simp (disch:=first | omega | decide +kernel) only [q',Int.toNat_natCast,wrap_u8,go_sem,Qa,Qb,Qc,Qd,Qe,↓reduceIte,reduceCtorEq,Qf,Qg,Qh])<;>clear q') | refine hN _ ?_ ?_ Wk.kk | with_reducible refine And.intro ?_ ?_ | with_reducible omega | exact ok_ints | exact cells_ints | exact no_mem | with_reducible exact plain_ints | (refine le_maxLen ?_; omega) | (refine za9 ⟨?_,?_⟩) | (simp only [go_sem,Qc,Qb,zb1,zb2,forall_eq]; done)))
     all_goals (first | exact retR_dd rfl rfl ⟨rfl,(0,false),rfl,by decide,by decide⟩ | (refine hN (10 * n + ((s.data.toList.getD i 0).toNat - 48)) _ hlt ⟨by omega,by omega⟩ (by refine Wk.auto ?_ ?_<;>simp [extraK,lk,killL,St.kill,wipeO,wipeS,AV.has,AV.hasL,AO.wipe,List.map_set,updSt,insL,dropS,ins,])))
   . obtain rfl : i=s.size:=by omega
     have c2:=l1Num_ok n (by omega)
     have c3:=l1Num_ok (0 - n) (by omega)
     simp (disch:=first | omega | decide +kernel) only [Int.toNat_natCast,go_sem,Qa,Qb,Qc,Qd,Qe,↓reduceIte,reduceCtorEq,Qf,Qg,Qh]
     (repeat' (first | ((first | (refine gsel_split (fun q' => ?_) (fun q' => ?_)<;>(have h':=q')<;>(try simp only [za1,za2,Ba,Bb,za3,ne_eq,za4,za5,za6,Ia,Ib,Ic,Ie,Da,Bc,Bh,Be,za7,za8] at h')<;>try (exfalso; omega)) | (have q':=trivial; first | refine callX_new (c2) rfl (by decide) ?_ | refine callY_new (c2) rfl ?_ | refine callX_new (c3) rfl (by decide) ?_ | refine callY_new (c3) rfl ?_ | refine hE _ _ ret_ne ?_ | refine hE _ _ exit_ne ?_))<;>(try simp (disch:=first | omega | decide +kernel) only [q',Int.toNat_natCast,go_sem,Qa,Qb,Qc,Qd,Qe,↓reduceIte,reduceCtorEq,Qf,Qg,Qh])<;>clear q') | refine hN _ ?_ ?_ Wk.kk | with_reducible refine And.intro ?_ ?_ | with_reducible omega | exact ok_ints | exact cells_ints | exact no_mem | with_reducible exact plain_ints | (refine le_maxLen ?_; omega) | (refine za9 ⟨?_,?_⟩) | (simp only [go_sem,Qc,Qb,zb1,zb2,forall_eq]; done)))
     all_goals (first | exact retR_dd rfl rfl ⟨rfl,(0,false),rfl,by decide,by decide⟩ | exact retR_dd rfl rfl ⟨rfl,(n,true),rfl,by omega,by omega⟩ | exact retR_dd rfl rfl ⟨rfl,(0 - n,true),rfl,by omega,by omega⟩)
end Abs.Y
