/- What functions of this program compute, over plain data. No condition. -/
import Derived.Test.YtkccabajcdphkaaDoorFacts
import Derived.Test.YtkccabajcdphkaaDoorAbsBox
import Derived.Test.YtkccabajcdphkaaDoorAbsRow
set_option linter.all false
open Nat renaming reduceEqDiff -> Qa, reduceLT -> Qb, reduceAdd -> Qc, reduceMul -> Qd, reduceSub -> Qe, reduceLeDiff -> Qf, reduceSubDiff -> Qg, reduceBEq -> Qh
open Bool renaming not_eq_true' -> Ba, not_eq_false' -> Bb, and_eq_true -> Bc, or_eq_true -> Bh, or_eq_false_iff -> Be
open Int renaming ofNat_lt -> Ia, ofNat_le -> Ib, not_lt -> Ic, not_le -> Ie
open Decidable renaming not_not -> Da
namespace Abs
open Go Go.Proofs
theorem retM_ds {P : Program} {t : Nat} {st : St} {x : D} {u : Nat->Value} {ob : AO} (h : lk t st.s=some (.d x)) (ho : lk 0 st.o=some ob) (hk : lk 1000000000 st.s=some (.hdr 0 (u 0))) (hr : ob.ren (fun j => j)=ob) :
 retM P [.tmp t] u [0] true (.d x) [(0,ob)] .ret st:=by
 simp only [retM,resV,h]
 exact ⟨trivial,⟨fun j => j,rfl,by simpa [hr] using ho,by simp,⟨rfl,hk,trivial⟩⟩,.inl trivial⟩
theorem CtrR.mono {P f avs oi keep sh} {R R' : AV->List (Nat × AO)->Prop} (h : CtrR P f avs oi keep sh R) (hR : ∀ r o,R r o->R' r o) : CtrR P f avs oi keep sh R' :=
 ⟨h.1,fun S β φ w vs h1 h2 h3 h4 hG => (h.2 S β φ w vs h1 h2 h3 h4 hG).mono fun _ _ ⟨v,r,o,e,hr,h5,h6⟩ => ⟨v,r,o,e,hR r o hr,h5,h6⟩⟩
end Abs
namespace Abs.Y
open Go Go.Proofs Abs
set_option maxRecDepth 100000

@[reducible] def D.bytes (c : List Int) : D:=.slice (c.map (.int .u8))
@[reducible] def curB (code : List Int) (at_ : Nat) (seed : Int) : AO:=.box 95 [.d (D.bytes code),.d (.int .i64 (at_ : Nat)),.d (.int .u64 seed)]
@[reducible] def curO (code : List Int) (at_ : Nat) (seed : Int) : List (Nat × AO):=[(0,curB code at_ seed)]
structure CodeOK (code : List Int) : Prop where
 len : code.length<=1048576
 byte : ∀ i,0<=code.getD i 0∧code.getD i 0 < 256
structure CurOK (at_ : Nat) (seed : Int) : Prop where
 at_ : at_<=1099511627776
 seed : 0<=seed∧seed < 18446744073709551616
theorem el_u8 {xs : List Int} {i : Nat} (h : i < xs.length) : el (xs.map (.int .u8)) i=.int .u8 (xs.getD i 0):=el_map (f:=D.int .u8) 0 h
def seedN (seed b : Int) : Int:=IntKind.u64.wrap (IntKind.u64.wrap (IntKind.u64.wrap (seed * 6364136223846793005) + IntKind.u64.wrap b) + 337411)
theorem wrap_u64 (n : Int) : 0<=IntKind.u64.wrap n∧IntKind.u64.wrap n < 18446744073709551616:=by
 simp only [IntKind.wrap,IntKind.signed,IntKind.bits]
 simp; omega
theorem seedN_bd (s b : Int) : 0<=seedN s b∧seedN s b < 18446744073709551616:=wrap_u64 _
theorem bitV_and_u64 (x : Int) : 0<=bitV .and .u64 x 255∧bitV .and .u64 x 255<=255:=by
 have h : (BitVec.ofInt 64 x &&& BitVec.ofInt 64 255).toNat<=255:=by
  rw [BitVec.toNat_and]; exact Nat.and_le_right
 have e : bitV .and .u64 x 255=IntKind.wrap .u64 ((BitVec.ofInt 64 x &&& BitVec.ofInt 64 255).toNat : Nat):=rfl
 generalize (BitVec.ofInt 64 x &&& BitVec.ofInt 64 255).toNat=n at *
 rw [e]
 simp only [IntKind.wrap,IntKind.signed,IntKind.bits]
 simp; omega
def drawX (s : Int) : Int:=IntKind.i64.wrap (bitV .and .u64 (s.fdiv (2 ^ min (Int.toNat 40) 64)) 255)
theorem drawX_bd (s : Int) : 0<=drawX s∧drawX s<=255:=by
 unfold drawX
 have h:=bitV_and_u64 (s.fdiv (2 ^ min (Int.toNat 40) 64))
 rw [wrap_of (by omega)]
 omega
theorem next_ok {code : List Int} (hc : CodeOK code) {at_ : Nat} {seed : Int} (h : CurOK at_ seed) : ∃ x seed',0<=x∧x<=255∧0<=seed'∧seed' < 18446744073709551616 ∧
 CtrM Tryd.prog 134 [.p 0 0] (curO code at_ seed) [0] true (.d (.int .i64 x)) (curO code (at_ + 1) seed'):=by
 have hl:=hc.len
 have hb:=hc.byte at_
 obtain ⟨ha,hs⟩:=h
 by_cases hlt : at_ < code.length
 . have hei:=el_u8 hlt
   have he2 : (at_ : Int) + 1=((at_ + 1 : Nat) : Int):=by omega
   generalize code.getD at_ 0=b at *
   refine ⟨b,seedN seed b,hb.1,by omega,(seedN_bd _ _).1,(seedN_bd _ _).2,?_⟩
   refine CtrM.of (n:=62) (rs:=[.tmp 2]) Tryd.func134 rfl rfl Tryd.ntmps134 rfl rfl (by kernel_rfl) Tryd.checked.mixed ?_; intro u
   simp (disch:=first | omega | decide +kernel) only [curO,curB,D.bytes,hei,setL,he2,go_sem,Qa,Qb,Qc,Qd,Qe,↓reduceIte,reduceCtorEq,Qf,Qg,Qh]
   (repeat' (first | ((first | (refine gsel_split (fun q' => ?_) (fun q' => ?_)<;>(have h':=q')<;>(try simp only [za1,za2,Ba,Bb,za3,ne_eq,za4,za5,za6,Ia,Ib,Ic,Ie,Da,Bc,Bh,Be,za7,za8] at h')<;>try (exfalso; omega)) | (have q':=trivial; first | refine hE _ _ ret_ne ?_ | refine hE _ _ exit_ne ?_))<;>(try simp (disch:=first | omega | decide +kernel) only [q',D.bytes,hei,setL,he2,Int.toNat_natCast,go_sem,Qa,Qb,Qc,Qd,Qe,↓reduceIte,reduceCtorEq,Qf,Qg,Qh])<;>clear q') | refine hN _ ?_ ?_ Wk.kk | with_reducible refine And.intro ?_ ?_ | with_reducible omega | exact ok_ints | exact cells_ints | exact no_mem | with_reducible exact plain_ints | (refine le_maxLen ?_; omega) | (refine za9 ⟨?_,?_⟩) | (simp only [go_sem,Qc,Qb,zb1,zb2,forall_eq]; done)))
   all_goals (first | omega | exact retM_ds rfl rfl rfl rfl)
 . have he2 : (at_ : Int) + 1=((at_ + 1 : Nat) : Int):=by omega
   refine ⟨drawX (seedN seed 0),seedN seed 0,(drawX_bd _).1,(drawX_bd _).2,(seedN_bd _ _).1,(seedN_bd _ _).2,?_⟩
   refine CtrM.of (n:=62) (rs:=[.tmp 2]) Tryd.func134 rfl rfl Tryd.ntmps134 rfl rfl (by kernel_rfl) Tryd.checked.mixed ?_; intro u
   simp (disch:=first | omega | decide +kernel) only [curO,curB,D.bytes,setL,he2,go_sem,Qa,Qb,Qc,Qd,Qe,↓reduceIte,reduceCtorEq,Qf,Qg,Qh]
   (repeat' (first | ((first | (refine gsel_split (fun q' => ?_) (fun q' => ?_)<;>(have h':=q')<;>(try simp only [za1,za2,Ba,Bb,za3,ne_eq,za4,za5,za6,Ia,Ib,Ic,Ie,Da,Bc,Bh,Be,za7,za8] at h')<;>try (exfalso; omega)) | (have q':=trivial; first | refine hE _ _ ret_ne ?_ | refine hE _ _ exit_ne ?_))<;>(try simp (disch:=first | omega | decide +kernel) only [q',D.bytes,setL,he2,Int.toNat_natCast,go_sem,Qa,Qb,Qc,Qd,Qe,↓reduceIte,reduceCtorEq,Qf,Qg,Qh])<;>clear q') | with_reducible refine And.intro ?_ ?_ | with_reducible omega | exact no_mem | (refine le_maxLen ?_; omega) | (refine za9 ⟨?_,?_⟩) | (simp only [go_sem,Qc,Qb,zb1,zb2,forall_eq]; done)))
   all_goals (first | omega | exact retM_ds rfl rfl rfl rfl)
def Draws (f : FuncId) (xs : List AV) (k : Nat) (Q : AV->Prop) (code : List Int) : Prop:=∀ at_ seed,at_ + k<=1099511627776->0<=seed->seed < 18446744073709551616 ->
 CtrR Tryd.prog f (.p 0 0 :: xs) (curO code at_ seed) [0] true fun r oo => ∃ at' seed',at_<=at'∧at'<=at_ + k∧0<=seed'∧seed' < 18446744073709551616∧oo=curO code at' seed'∧Q r
theorem callX_draw {N f cavs st dst K} (J : Nat) {xs k Q code at_ seed} (hs : Draws f xs k Q code) (hp : passM Tryd.prog (delL [J] st.o) (nth [J]) true cavs (.p 0 0 :: xs)) (ho : lkn J st.o=some ((curB code at_ seed).ren (nth [J])))
 (hd : dstB N dst) (h1 : at_ + k<=1099511627776) (h2 : 0<=seed) (h3 : seed < 18446744073709551616)
 (hK : ∀ r at' seed',at_<=at'->at'<=at_ + k->0<=seed'->seed' < 18446744073709551616->Q r->K (impM st dst (nth [J]) [] r (curO code at' seed'))) : callX Tryd.prog N f cavs dst K st :=
 callX_rel [J] [J] [] (hs at_ seed h1 h2 h3) hp ⟨ho,trivial⟩ (by simp [namesI,keysO,nth]) hd fun r oo ⟨at',seed',a1,a2,a3,a4,e,hQ⟩ => by
  subst e; exact ⟨by simp [namesOK,keysO,nth],hK r at' seed' a1 a2 a3 a4 hQ⟩
theorem retR_draw {t : Nat} {u : Nat->Value} {st : St} {code : List Int} {at_ k : Nat} {Q : AV->Prop} {at' : Nat} {seed' : Int} {x : D} (h : lk t st.s=some (.d x)) (ho : lk 0 st.o=some (curB code at' seed')) (hk : lk 1000000000 st.s=some (.hdr 0 (u 0)))
 (h1 : at_<=at') (h2 : at'<=at_ + k) (h3 : 0<=seed') (h4 : seed' < 18446744073709551616) (hQ : Q (.d x)) :
 retR Tryd.prog [.tmp t] u [0] true (fun r oo => ∃ at' seed',at_<=at'∧at'<=at_ + k∧0<=seed'∧seed' < 18446744073709551616∧oo=curO code at' seed'∧Q r) .ret st :=
 ⟨_,_,⟨at',seed',h1,h2,h3,h4,rfl,hQ⟩,retM_ds h ho hk rfl⟩
@[reducible] def QI (Q : Int->Prop) : AV->Prop:=fun r => ∃ x,r=.d (.int .i64 x)∧Q x
theorem next_draws {code : List Int} (hc : CodeOK code) : Draws 134 [] 1 (QI fun x => 0<=x∧x<=255) code:=fun at_ seed h1 h2 h3 => by
 obtain ⟨x,s,a1,a2,a3,a4,h⟩:=next_ok hc (at_:=at_) (seed:=seed) ⟨by omega,h2,h3⟩
 exact h.rel.mono fun r o ⟨e1,e2⟩ => ⟨at_ + 1,s,by omega,by omega,a3,a4,e2,x,e1,a1,a2⟩
end Abs.Y

namespace Abs.Y
open Go Go.Proofs Abs
set_option maxRecDepth 100000
set_option maxHeartbeats 1000000

@[reducible] def QB : AV->Prop:=fun r => ∃ b : Bool,r=.d (.bool b)∧True
theorem pick_fin {n y : Int} (h : 1 < n) (h0 : 0<=y) (h1 : y<=65535) : (n<=1->y % n=0)∧0<=y % n∧(1 < n->y % n < n)∧y % n<=65535:=by
 have b1:=Int.emod_nonneg y (b:=n) (by omega)
 have b2:=Int.emod_lt_of_pos y (b:=n) (by omega)
 have b3:=Int.mul_ediv_add_emod y n
 have b4:=Int.mul_nonneg (a:=n) (b:=y / n) (by omega) (Int.ediv_nonneg h0 (by omega))
 generalize y % n=m at *
 generalize n * (y / n)=z at *
 omega
theorem pick_ok {code : List Int} (hc : CodeOK code) (n : Int) (hn : n<=9223372036854775807∧-9223372036854775808<=n) :
 Draws 75 [.d (.int .i64 n)] 2 (QI fun x => (n<=1->x=0)∧0<=x∧(1 < n->x < n)∧x<=65535) code:=fun at_ seed h1 h2 h3 => by
 have c1:=next_draws hc
 have e1 : ∀ x : Int,0<=x->x.tmod n=x % n:=fun x hx => Int.tmod_eq_emod_of_nonneg hx
 refine CtrR.of (n:=20) (rs:=[.tmp 4]) Tryd.func75 rfl rfl Tryd.ntmps75 rfl rfl (by kernel_rfl) Tryd.checked.mixed ?_; intro u
 simp (disch:=first | omega | decide +kernel) only [curO,curB,D.bytes,go_sem,Qa,Qb,Qc,Qd,Qe,↓reduceIte,reduceCtorEq,Qf,Qg,Qh]
 (repeat' (first | ((first | (refine gsel_split (fun q' => ?_) (fun q' => ?_)<;>(have h':=q')<;>(try simp only [za1,za2,Ba,Bb,za3,ne_eq,za4,za5,za6,Ia,Ib,Ic,Ie,Da,Bc,Bh,Be,za7,za8] at h')<;>try (exfalso; omega)) | (have q':=trivial; first | (refine callX_draw _ (c1) ⟨.inl rfl,trivial⟩ rfl (by simp [dstB]) (by omega) (by omega) (by omega) ?_; rintro _ at1 sd1 hat11 hat12 hsd11 hsd12 ⟨x1,rfl,hx1⟩) | refine hE _ _ ret_ne ?_ | refine hE _ _ exit_ne ?_))<;>(try simp (disch:=first | omega | decide +kernel) only [q',curO,curB,D.bytes,e1,go_sem,Qa,Qb,Qc,Qd,Qe,↓reduceIte,reduceCtorEq,Qf,Qg,Qh])<;>clear q') | with_reducible refine And.intro ?_ ?_ | with_reducible omega | (refine le_maxLen ?_; omega)))
 all_goals (first | omega | (refine retR_draw rfl rfl rfl (by omega) (by omega) (by omega) (by omega) ⟨_,rfl,?_⟩))
 all_goals (first | exact pick_fin (by omega) (by omega) (by omega) | (show _∧_; refine ⟨fun _ => rfl,?_,?_,?_⟩<;>omega))
theorem one_ok {code : List Int} (hc : CodeOK code) (n : Int) (hn : n<=9223372036854775807∧-9223372036854775808<=n) :
 Draws 106 [.d (.int .i64 n)] 2 QB code:=fun at_ seed h1 h2 h3 => by
 have c1:=pick_ok hc n hn
 refine CtrR.of (n:=9) (rs:=[.tmp 4]) Tryd.func106 rfl rfl Tryd.ntmps106 rfl rfl (by kernel_rfl) Tryd.checked.mixed ?_; intro u
 simp (disch:=first | omega | decide +kernel) only [curO,curB,D.bytes,go_sem,Qa,Qb,Qc,Qd,Qe,↓reduceIte,reduceCtorEq,Qf,Qg,Qh]
 (repeat' (first | ((first | (refine gsel_split (fun q' => ?_) (fun q' => ?_)<;>(have h':=q')<;>(try simp only [za1,za2,Ba,Bb,za3,ne_eq,za4,za5,za6,Ia,Ib,Ic,Ie,Da,Bc,Bh,Be,za7,za8] at h')<;>try (exfalso; omega)) | (have q':=trivial; first | (refine callX_draw _ (c1) ⟨.inl rfl,.inl rfl,trivial⟩ rfl (by simp [dstB]) (by omega) (by omega) (by omega) ?_; rintro _ at1 sd1 hat11 hat12 hsd11 hsd12 ⟨x1,rfl,hx1⟩) | refine hE _ _ ret_ne ?_ | refine hE _ _ exit_ne ?_))<;>(try simp (disch:=first | omega | decide +kernel) only [q',curO,curB,D.bytes,go_sem,Qa,Qb,Qc,Qd,Qe,↓reduceIte,reduceCtorEq,Qf,Qg,Qh])<;>clear q') | with_reducible refine And.intro ?_ ?_ | with_reducible omega | (refine le_maxLen ?_; omega)))
 all_goals (first | omega | (exact retR_draw rfl rfl rfl (by omega) (by omega) (by omega) (by omega) ⟨_,rfl,trivial⟩))
end Abs.Y

namespace Abs.Y
open Go Go.Proofs Abs
set_option maxRecDepth 100000
set_option maxHeartbeats 1000000

def DrawsL (f : FuncId) (xs : List AV) (k : Nat) (o : AO) (Q : AV->Prop) (code : List Int) : Prop:=∀ at_ seed,at_ + k<=1099511627776->0<=seed->seed < 18446744073709551616 ->
 CtrR Tryd.prog f (.p 0 0 :: xs) [(0,curB code at_ seed),(1,o)] [0,1] true fun r oo => ∃ at' seed',at_<=at'∧at'<=at_ + k∧0<=seed'∧seed' < 18446744073709551616∧oo=[(0,curB code at' seed'),(1,o)]∧Q r
theorem callX_drawL {N f cavs st dst K} (J L : Nat) {xs k o Q code at_ seed} (hs : DrawsL f xs k o Q code) (hp : passM Tryd.prog (delL [J,L] st.o) (nth [J,L]) true cavs (.p 0 0 :: xs)) (ho : lkn J st.o=some ((curB code at_ seed).ren (nth [J,L])))
 (hl : lkn L st.o=some (o.ren (nth [J,L]))) (hJL : J ≠ L) (hd : dstB N dst) (h1 : at_ + k<=1099511627776) (h2 : 0<=seed) (h3 : seed < 18446744073709551616)
 (hK : ∀ r at' seed',at_<=at'->at'<=at_ + k->0<=seed'->seed' < 18446744073709551616->Q r->K (impM st dst (nth [J,L]) [] r [(0,curB code at' seed'),(1,o)])) : callX Tryd.prog N f cavs dst K st :=
 callX_rel [J,L] [J,L] [] (hs at_ seed h1 h2 h3) hp ⟨ho,hl,trivial⟩ (by simp [namesI,keysO,nth,hJL,Ne.symm hJL]) hd fun r oo ⟨at',seed',a1,a2,a3,a4,e,hQ⟩ => by
  subst e; exact ⟨by simp [namesOK,keysO,nth,hJL,Ne.symm hJL],hK r at' seed' a1 a2 a3 a4 hQ⟩
theorem retM_ds2 {P : Program} {t : Nat} {st : St} {x : D} {u : Nat->Value} {o0 o1 : AO} (h : lk t st.s=some (.d x)) (h0 : lk 0 st.o=some o0) (h1 : lk 1 st.o=some o1) (k0 : lk 1000000000 st.s=some (.hdr 0 (u 0))) (k1 : lk 1000000001 st.s=some (.hdr 1 (u 1)))
 (r0 : o0.ren (fun j => j)=o0) (r1 : o1.ren (fun j => j)=o1) : retM P [.tmp t] u [0,1] true (.d x) [(0,o0),(1,o1)] .ret st:=by
 simp only [retM,resV,h]
 exact ⟨trivial,⟨fun j => j,rfl,by simpa [r0,r1] using ⟨h0,h1⟩,by simp,⟨rfl,k0,⟨rfl,k1,trivial⟩⟩⟩,.inl trivial⟩
theorem retR_drawL {t : Nat} {u : Nat->Value} {st : St} {code : List Int} {at_ k : Nat} {Q : AV->Prop} {o : AO} {at' : Nat} {seed' : Int} {x : D} (h : lk t st.s=some (.d x)) (ho : lk 0 st.o=some (curB code at' seed')) (hl : lk 1 st.o=some o) (hk : lk 1000000000 st.s=some (.hdr 0 (u 0))) (hk1 : lk 1000000001 st.s=some (.hdr 1 (u 1)))
 (hr : o.ren (fun j => j)=o) (h1 : at_<=at') (h2 : at'<=at_ + k) (h3 : 0<=seed') (h4 : seed' < 18446744073709551616) (hQ : Q (.d x)) :
 retR Tryd.prog [.tmp t] u [0,1] true (fun r oo => ∃ at' seed',at_<=at'∧at'<=at_ + k∧0<=seed'∧seed' < 18446744073709551616∧oo=[(0,curB code at' seed'),(1,o)]∧Q r) .ret st :=
 ⟨_,_,⟨at',seed',h1,h2,h3,h4,rfl,hQ⟩,retM_ds2 h ho hl hk hk1 rfl hr⟩
theorem amongL_ok {code : List Int} (hc : CodeOK code) (l : List Int) (hl : 1<=l.length∧l.length<=60000) :
 DrawsL 70 [.sl 1] 2 (.arr 3 1 (l.map (.int .i64))) (QI fun x => x ∈ l) code:=fun at_ seed h1 h2 h3 => by
 have c1:=pick_ok hc (l.length : Nat) (by omega)
 have hei : ∀ x : Int,0<=x->x < l.length->el (l.map (D.int .i64)) x.toNat=.int .i64 (l.getD x.toNat 0):=fun x hx hl => el_ints (by omega)
 have hm : ∀ x : Int,0<=x->x < l.length->l.getD x.toNat 0 ∈ l:=fun x hx hl => by
  have : x.toNat < l.length:=by omega
  simp [List.getD_eq_getElem?_getD,this]
 refine CtrR.of (n:=12) (rs:=[.tmp 4]) Tryd.func70 rfl rfl Tryd.ntmps70 rfl rfl (by kernel_rfl) Tryd.checked.mixed ?_; intro u
 simp (disch:=first | omega | decide +kernel) only [curO,curB,D.bytes,D.ints,go_sem,Qa,Qb,Qc,Qd,Qe,↓reduceIte,reduceCtorEq,Qf,Qg,Qh]
 (repeat' (first | ((first | (refine gsel_split (fun q' => ?_) (fun q' => ?_)<;>(have h':=q')<;>(try simp only [za1,za2,Ba,Bb,za3,ne_eq,za4,za5,za6,Ia,Ib,Ic,Ie,Da,Bc,Bh,Be,za7,za8] at h')<;>try (exfalso; omega)) | (have q':=trivial; first | (refine callX_draw _ (c1) ⟨.inl rfl,.inl rfl,trivial⟩ rfl (by simp [dstB]) (by omega) (by omega) (by omega) ?_; rintro _ at1 sd1 hat11 hat12 hsd11 hsd12 ⟨x1,rfl,hx1⟩) | refine hE _ _ ret_ne ?_ | refine hE _ _ exit_ne ?_))<;>(try simp (disch:=first | omega | decide +kernel) only [q',curO,curB,D.bytes,D.ints,hei,go_sem,Qa,Qb,Qc,Qd,Qe,↓reduceIte,reduceCtorEq,Qf,Qg,Qh])<;>clear q') | with_reducible refine And.intro ?_ ?_ | with_reducible omega | (refine le_maxLen ?_; omega)))
 all_goals (first | omega | (exact retR_drawL rfl rfl rfl rfl rfl rfl (by omega) (by omega) (by omega) (by omega) ⟨_,rfl,hm _ (by omega) (by omega)⟩))
theorem amongB_ok {code : List Int} (hc : CodeOK code) (l : List Int) (lo hi : Int) (hl : 1<=l.length∧l.length<=60000) (hb : ∀ x ∈ l,lo<=x∧x<=hi) :
 DrawsL 70 [.sl 1] 2 (.arr 3 1 (l.map (.int .i64))) (QI fun x => lo<=x∧x<=hi) code:=fun at_ seed h1 h2 h3 =>
 (amongL_ok hc l hl at_ seed h1 h2 h3).mono fun _ _ ⟨a,s,e1,e2,e3,e4,e5,x,e6,e7⟩ => ⟨a,s,e1,e2,e3,e4,e5,x,e6,hb x e7⟩
end Abs.Y

namespace Abs.Y
open Go Go.Proofs Abs
set_option maxRecDepth 100000

inductive Fm where
 | lf (c : UInt8)
 | ng (a : Fm)
 | jn (o : UInt8) (a b : Fm)
deriving DecidableEq
def isLet (c : UInt8) : Bool:=decide (97<=c∧c<=102)
def isLf (c : UInt8) : Bool:=decide (c=48∨c=49) || isLet c
def isOp (c : UInt8) : Bool:=decide (c=38∨c=124∨c=62)
def Fm.wf : Fm->Bool
 | .lf c => isLf c
 | .ng a => a.wf
 | .jn o a b => isOp o && a.wf && b.wf
def Fm.tl : Fm->List UInt8
 | .lf c => [c]
 | .ng a => 126 :: a.tl
 | .jn o a b => 40 :: (a.tl++o :: (b.tl++[41]))
def Fm.T (x : Fm) : ByteArray:=⟨x.tl.toArray⟩
def Par (l : List UInt8) (x : Fm) (r : List UInt8) : Prop:=x.wf=true∧l=x.tl++r
theorem lf_ne {c : UInt8} (h : isLf c=true) : c ≠ 126∧c ≠ 40:=by
 refine ⟨fun e => ?_,fun e => ?_⟩<;>(subst e; revert h; decide)
theorem tl_ne (x : Fm) : x.tl ≠ []:=by cases x<;>simp [Fm.tl]
theorem par_uniq : ∀ (x y : Fm) (r q : List UInt8),x.wf=true->y.wf=true->x.tl++r=y.tl++q->x=y∧r=q
 | .lf c, .lf d, r, q, _, _, h => by
   simp only [Fm.tl,List.cons_append,List.nil_append,List.cons.injEq] at h
   exact ⟨by rw [h.1],h.2⟩
 | .lf c, .ng b, r, q, hx, _, h => by
   simp only [Fm.tl,List.cons_append,List.nil_append,List.cons.injEq] at h
   exact absurd h.1 (lf_ne hx).1
 | .lf c, .jn o a b, r, q, hx, _, h => by
   simp only [Fm.tl,List.cons_append,List.nil_append,List.cons.injEq] at h
   exact absurd h.1 (lf_ne hx).2
 | .ng a, .lf c, r, q, _, hy, h => by
   simp only [Fm.tl,List.cons_append,List.nil_append,List.cons.injEq] at h
   exact absurd h.1.symm (lf_ne hy).1
 | .jn o a b, .lf c, r, q, _, hy, h => by
   simp only [Fm.tl,List.cons_append,List.nil_append,List.cons.injEq] at h
   exact absurd h.1.symm (lf_ne hy).2
 | .ng a, .ng b, r, q, hx, hy, h => by
   simp only [Fm.tl,List.cons_append,List.cons.injEq] at h
   obtain ⟨e1,e2⟩:=par_uniq a b r q hx hy h.2
   exact ⟨by rw [e1],e2⟩
 | .ng a, .jn o b c, r, q, _, _, h => by
   simp only [Fm.tl,List.cons_append,List.cons.injEq] at h
   exact absurd h.1 (by decide)
 | .jn o b c, .ng a, r, q, _, _, h => by
   simp only [Fm.tl,List.cons_append,List.cons.injEq] at h
   exact absurd h.1 (by decide)
 | .jn o a b, .jn o' a' b', r, q, hx, hy, h => by
   simp only [Fm.tl,List.cons_append,List.append_assoc,List.cons.injEq,true_and] at h
   simp only [Fm.wf,Bc] at hx hy
   obtain ⟨e1,e2⟩:=par_uniq a a' _ _ hx.1.2 hy.1.2 h
   simp only [List.cons.injEq] at e2
   obtain ⟨e3,e4⟩:=par_uniq b b' _ _ hx.2 hy.2 e2.2
   simp only [List.cons_append,List.nil_append,List.cons.injEq,true_and] at e4
   exact ⟨by rw [e1,e2.1,e3],e4⟩
open Classical in
noncomputable def prs (l : List UInt8) : Option (Fm × List UInt8):=if h : ∃ p : Fm × List UInt8,Par l p.1 p.2 then some (Classical.choose h) else none
theorem prs_of {l x r} (h : Par l x r) : prs l=some (x,r):=by
 have h' : ∃ p : Fm × List UInt8,Par l p.1 p.2:=⟨(x,r),h⟩
 rw [prs,dif_pos h']
 have hc:=Classical.choose_spec h'
 obtain ⟨e1,e2⟩:=par_uniq _ _ _ _ hc.1 h.1 (hc.2.symm.trans h.2)
 congr 1
 exact Prod.ext e1 e2
theorem prs_some {l x r} (h : prs l=some (x,r)) : Par l x r:=by
 rw [prs] at h
 split at h
 . rename_i h'
   have hc:=Classical.choose_spec h'
   rw [Option.some.inj h] at hc
   exact hc
 . cases h
theorem prs_no {l} (h : ∀ x r,¬ Par l x r) : prs l=none:=by
 rw [prs,dif_neg fun ⟨p,hp⟩ => h _ _ hp]
theorem prs_none {l} (h : prs l=none) (x r) : ¬ Par l x r:=fun hp => by rw [prs_of hp] at h; cases h
theorem prs_nil : prs []=none:=prs_no fun x r h => tl_ne x (List.append_eq_nil_iff.1 h.2.symm).1
theorem prs_lf {c l} (h : isLf c=true) : prs (c :: l)=some (.lf c,l):=prs_of ⟨h,rfl⟩
theorem prs_ng {l} : prs (126 :: l)=(prs l).map fun p => (.ng p.1,p.2):=by
 cases h : prs l with
 | some p => exact prs_of ⟨(prs_some h).1,by rw [(prs_some h).2]; rfl⟩
 | none =>
   refine prs_no fun x r hp => ?_
   cases x with
   | lf c => have:=hp.2; simp only [Fm.tl,List.cons_append,List.cons.injEq] at this; exact (lf_ne hp.1).1 this.1.symm
   | ng a => have:=hp.2; simp only [Fm.tl,List.cons_append,List.cons.injEq,true_and] at this; exact prs_none h a r ⟨hp.1,this⟩
   | jn o a b => have:=hp.2; simp only [Fm.tl,List.cons_append,List.cons.injEq] at this; exact absurd this.1 (by decide)
theorem prs_other {c l} (h1 : isLf c=false) (h2 : c ≠ 126) (h3 : c ≠ 40) : prs (c :: l)=none:=by
 refine prs_no fun x r hp => ?_
 cases x with
 | lf d =>
   have:=hp.2
   simp only [Fm.tl,List.cons_append,List.cons.injEq] at this
   have h4:=hp.1
   rw [Fm.wf,← this.1,h1] at h4
   cases h4
 | ng a => have:=hp.2; simp only [Fm.tl,List.cons_append,List.cons.injEq] at this; exact h2 this.1
 | jn o a b => have:=hp.2; simp only [Fm.tl,List.cons_append,List.cons.injEq] at this; exact h3 this.1
theorem par_jn {l x r} : Par (40 :: l) x r↔∃ o a b r1,x=.jn o a b∧isOp o=true∧Par l a (o :: r1)∧Par r1 b (41 :: r):=by
 constructor
 . intro hp
   cases x with
   | lf d => have:=hp.2; simp only [Fm.tl,List.cons_append,List.cons.injEq] at this; exact absurd this.1.symm (lf_ne hp.1).2
   | ng a => have:=hp.2; simp only [Fm.tl,List.cons_append,List.cons.injEq] at this; exact absurd this.1 (by decide)
   | jn o a b =>
     have h1:=hp.1
     have:=hp.2
     simp only [Fm.wf,Bc] at h1
     simp only [Fm.tl,List.cons_append,List.append_assoc,List.cons.injEq,true_and,List.nil_append] at this
     exact ⟨o,a,b,b.tl++41 :: r,rfl,h1.1.1,⟨h1.1.2,this⟩,h1.2,rfl⟩
 . rintro ⟨o,a,b,r1,rfl,ho,h1,h2⟩
   refine ⟨by simp only [Fm.wf,ho,h1.1,h2.1,Bool.and_self],?_⟩
   rw [h1.2,h2.2]
   simp only [Fm.tl,List.cons_append,List.append_assoc,List.nil_append]
theorem prs_jn1 {l} (h : prs l=none) : prs (40 :: l)=none:=prs_no fun _ _ hp => by
 obtain ⟨o,a,b,r1,_,_,h1,_⟩:=par_jn.1 hp
 exact prs_none h _ _ h1
theorem prs_jn2 {l a} (h : prs l=some (a,[])) : prs (40 :: l)=none:=prs_no fun _ _ hp => by
 obtain ⟨o,a',b,r1,_,_,h1,_⟩:=par_jn.1 hp
 rw [prs_of h1] at h
 simp at h
theorem prs_jn3 {l a o r1} (h : prs l=some (a,o :: r1)) (ho : isOp o=false) : prs (40 :: l)=none:=prs_no fun _ _ hp => by
 obtain ⟨o',a',b,r1',_,h2,h1,_⟩:=par_jn.1 hp
 rw [prs_of h1] at h
 simp only [Option.some.injEq,Prod.mk.injEq,List.cons.injEq] at h
 rw [h.2.1,ho] at h2
 cases h2
theorem prs_jn4 {l a o r1} (h : prs l=some (a,o :: r1)) (h' : prs r1=none) : prs (40 :: l)=none:=prs_no fun _ _ hp => by
 obtain ⟨o',a',b,r1',_,h2,h1,h3⟩:=par_jn.1 hp
 rw [prs_of h1] at h
 simp only [Option.some.injEq,Prod.mk.injEq,List.cons.injEq] at h
 rw [h.2.2] at h3
 exact prs_none h' _ _ h3
theorem prs_jn5 {l a o r1 b r2} (h : prs l=some (a,o :: r1)) (h' : prs r1=some (b,r2)) (h2 : r2.head? ≠ some 41) : prs (40 :: l)=none:=prs_no fun _ _ hp => by
 obtain ⟨o',a',b',r1',_,_,h1,h3⟩:=par_jn.1 hp
 rw [prs_of h1] at h
 simp only [Option.some.injEq,Prod.mk.injEq,List.cons.injEq] at h
 rw [h.2.2] at h3
 rw [prs_of h3] at h'
 simp only [Option.some.injEq,Prod.mk.injEq] at h'
 rw [← h'.2] at h2
 exact h2 rfl
theorem prs_jn6 {l a o r1 b r} (h : prs l=some (a,o :: r1)) (ho : isOp o=true) (h' : prs r1=some (b,41 :: r)) : prs (40 :: l)=some (.jn o a b,r) :=
 prs_of (par_jn.2 ⟨o,a,b,r1,rfl,ho,prs_some h,prs_some h'⟩)
theorem prs_len {l x r} (h : prs l=some (x,r)) : r.length < l.length:=by
 rw [(prs_some h).2,List.length_append]
 have:=List.length_pos_iff.2 (tl_ne x)
 omega

abbrev BL (s : ByteArray) : List UInt8:=s.data.toList
noncomputable def okS (s : ByteArray) : Bool:=decide (s.size<=80) && (match prs (BL s) with | some (_,[]) => true | _ => false)
noncomputable def fmS (s : ByteArray) : Fm:=((prs (BL s)).map (·.1)).getD (.lf 48)
theorem ext_BL {s t : ByteArray} (h : BL s=BL t) : s=t:=by
 cases s; cases t; simp only [BL] at h; congr 1; exact Array.ext' h
theorem BL_T (x : Fm) : BL x.T=x.tl:=rfl
theorem size_BL (s : ByteArray) : s.size=(BL s).length:=rfl
theorem okS_spec {s} (h : okS s=true) : (fmS s).wf=true∧s=(fmS s).T∧s.size<=80:=by
 rw [okS,Bc,decide_eq_true_eq] at h
 rw [fmS]
 split at h
 . rename_i x hx
   have hp:=prs_some hx
   rw [hx]
   refine ⟨hp.1,ext_BL ?_,h.1⟩
   rw [hp.2,List.append_nil]; rfl
 . exact absurd h.2 (by simp)
theorem prs_T {x : Fm} (h : x.wf=true) : prs (BL x.T)=some (x,[]):=prs_of ⟨h,by rw [BL_T,List.append_nil]⟩
theorem okS_T {x : Fm} (h : x.wf=true) (hs : x.T.size<=80) : okS x.T=true:=by
 rw [okS,prs_T h]; simp [hs]
theorem fmS_T {x : Fm} (h : x.wf=true) : fmS x.T=x:=by rw [fmS,prs_T h]; rfl

def Fm.vl (v : UInt8->Bool) : Fm->Bool
 | .lf c => if c=48 then false else if c=49 then true else v c
 | .ng a => !a.vl v
 | .jn o a b => if o=38 then a.vl v && b.vl v else if o=124 then a.vl v || b.vl v else !a.vl v || b.vl v
def bitF (m : Nat) (c : UInt8) : Bool:=m.testBit (c.toNat - 97)
def Fm.sub (f : UInt8->Fm) : Fm->Fm
 | .lf c => if isLet c then f c else .lf c
 | .ng a => .ng (a.sub f)
 | .jn o a b => .jn o (a.sub f) (b.sub f)
theorem lf_let {c : UInt8} (h : isLf c=true) (h' : isLet c=false) : c=48∨c=49:=by
 rw [isLf,h',Bool.or_false,decide_eq_true_eq] at h; exact h
theorem let_ne {c : UInt8} (h : isLet c=true) : c ≠ 48∧c ≠ 49:=by
 refine ⟨fun e => ?_,fun e => ?_⟩<;>(subst e; revert h; decide)
theorem vl_sub (v : UInt8->Bool) (f : UInt8->Fm) : ∀ x : Fm,x.wf=true->(x.sub f).vl v=x.vl fun c => (f c).vl v
 | .lf c, h => by
   rw [Fm.sub]
   split
   . rename_i hc; rw [Fm.vl,if_neg (let_ne hc).1,if_neg (let_ne hc).2]
   . rename_i hc; rcases lf_let h (by simpa using hc) with rfl | rfl<;>rfl
 | .ng a,h => by rw [Fm.sub,Fm.vl,Fm.vl,vl_sub v f a h]
 | .jn o a b, h => by
   simp only [Fm.wf,Bc] at h
   rw [Fm.sub,Fm.vl,Fm.vl,vl_sub v f a h.1.2,vl_sub v f b h.2]
theorem wf_sub {f : UInt8->Fm} (hf : ∀ c,(f c).wf=true) : ∀ x : Fm,x.wf=true->(x.sub f).wf=true
 | .lf c,h => by rw [Fm.sub]; split; exact hf c; exact h
 | .ng a,h => by rw [Fm.sub,Fm.wf]; exact wf_sub hf a h
 | .jn o a b, h => by
   simp only [Fm.wf,Bc] at h
   rw [Fm.sub,Fm.wf,wf_sub hf a h.1.2,wf_sub hf b h.2,h.1.1]; rfl
end Abs.Y

namespace Abs.Y
open Go Go.Proofs Abs
set_option maxRecDepth 100000

def fA : Fm:=.lf 97
def fB : Fm:=.lf 98
def fC : Fm:=.lf 99
def imp (a b : Fm) : Fm:=.jn 62 a b
def andF (a b : Fm) : Fm:=.jn 38 a b
def orF (a b : Fm) : Fm:=.jn 124 a b
def sch : Nat->Fm
 | 0 => imp fA (imp fB fA)
 | 1 => imp (imp fA (imp fB fC)) (imp (imp fA fB) (imp fA fC))
 | 2 => imp (imp (.ng fA) (.ng fB)) (imp fB fA)
 | 3 => imp (andF fA fB) fA
 | 4 => imp (andF fA fB) fB
 | 5 => imp fA (imp fB (andF fA fB))
 | 6 => imp fA (orF fA fB)
 | 7 => imp fB (orF fA fB)
 | 8 => imp (imp fA fC) (imp (imp fB fC) (imp (orF fA fB) fC))
 | _ => .lf 49
theorem sch_taut (v : UInt8->Bool) : ∀ k,(sch k).vl v=true
 | 0 | 1 | 2 | 3 | 4 | 5 | 6 | 7 | 8 => by
   simp (decide:=true) only [sch,imp,andF,orF,fA,fB,fC,Fm.vl,↓reduceIte]
   cases v 97<;>cases v 98<;>cases v 99<;>rfl
 | _ + 9 => rfl
def Fm.abc : Fm->Bool
 | .lf c => decide (c=97∨c=98∨c=99) || decide (c=48∨c=49)
 | .ng a => a.abc
 | .jn _ a b => a.abc && b.abc
theorem sch_abc : ∀ k,(sch k).abc=true
 | 0 | 1 | 2 | 3 | 4 | 5 | 6 | 7 | 8 => rfl
 | _ + 9 => rfl
theorem sch_wf : ∀ k,(sch k).wf=true
 | 0 | 1 | 2 | 3 | 4 | 5 | 6 | 7 | 8 => rfl
 | _ + 9 => rfl

abbrev By:=UInt8->Option Fm
def By.set (by_ : By) (c : UInt8) (y : Fm) : By:=fun d => if d=c then some y else by_ d
def mt : Fm->Fm->By->By × Bool
 | .lf c,y,b => if isLet c then (match b c with | none => (b.set c y,true) | some o => (b,decide (o=y))) else (b,decide (y=.lf c))
 | .ng a,.ng a',b => mt a a' b
 | .jn o a1 a2,.jn o' b1 b2,b => if o=o' then (if (mt a1 b1 b).2 then mt a2 b2 (mt a1 b1 b).1 else ((mt a1 b1 b).1,false)) else (b,false)
 | .ng _,.lf _,b => (b,false)
 | .ng _,.jn _ _ _,b => (b,false)
 | .jn _ _ _,.lf _,b => (b,false)
 | .jn _ _ _,.ng _,b => (b,false)
def By.le (b : By) (f : UInt8->Fm) : Prop:=∀ c x,b c=some x->f c=x
def By.sb (b d : By) : Prop:=∀ c x,b c=some x->d c=some x
theorem By.sb_refl (b : By) : b.sb b:=fun _ _ h => h
theorem By.sb_trans {a b c : By} (h : a.sb b) (h' : b.sb c) : a.sb c:=fun x y hh => h' _ _ (h _ _ hh)
theorem mt_case (f : UInt8->Fm) : ∀ (x : Fm) (b : By),x.wf=true->b.le f->(mt x (x.sub f) b).2=true∧(mt x (x.sub f) b).1.le f
 | .lf c, b, h, hb => by
   rw [Fm.sub,mt]
   split
   . cases hc : b c with
     | none =>
       refine ⟨rfl,fun d y hd => ?_⟩
       dsimp only [By.set] at hd
       split at hd
       . rename_i e; subst e; exact Option.some.inj hd
       . exact hb _ _ hd
     | some o => exact ⟨decide_eq_true (hb _ _ hc).symm,hb⟩
   . exact ⟨decide_eq_true rfl,hb⟩
 | .ng a,b,h,hb => by rw [Fm.sub,mt]; exact mt_case f a b h hb
 | .jn o a1 a2, b, h, hb => by
   simp only [Fm.wf,Bc] at h
   obtain ⟨h1,h2⟩:=mt_case f a1 b h.1.2 hb
   rw [Fm.sub,mt,if_pos rfl,if_pos h1]
   exact mt_case f a2 _ h.2 h2
theorem mt_sb : ∀ (x y : Fm) (b : By),b.sb (mt x y b).1
 | .lf c, y, b => by
   rw [mt]
   split
   . cases hc : b c with
     | none =>
       refine fun d z hd => ?_
       dsimp only [By.set]
       split
       . rename_i e; subst e; rw [hc] at hd; cases hd
       . exact hd
     | some o => exact b.sb_refl
   . exact b.sb_refl
 | .ng a,.ng a',b => by rw [mt]; exact mt_sb a a' b
 | .jn o a1 a2, .jn o' b1 b2, b => by
   rw [mt]
   split
   . split
     . exact By.sb_trans (mt_sb a1 b1 b) (mt_sb a2 b2 _)
     . exact mt_sb a1 b1 b
   . exact b.sb_refl
 | .ng _,.lf _,b => b.sb_refl
 | .ng _,.jn _ _ _,b => b.sb_refl
 | .jn _ _ _,.lf _,b => b.sb_refl
 | .jn _ _ _,.ng _,b => b.sb_refl
theorem mt_found (f : UInt8->Fm) : ∀ (x y : Fm) (b : By),(mt x y b).2=true->(∀ c z,(mt x y b).1 c=some z->f c=z)->y=x.sub f
 | .lf c, y, b => by
   rw [mt,Fm.sub]
   split
   . cases hc : b c with
     | none => exact fun _ h => (h c y (if_pos rfl)).symm
     | some o => exact fun h h' => by rw [← of_decide_eq_true h]; exact (h' _ _ hc).symm
   . exact fun h _ => of_decide_eq_true h
 | .ng a,.ng a',b => by rw [mt,Fm.sub]; exact fun h h' => by rw [mt_found f a a' b h h']
 | .jn o a1 a2, .jn o' b1 b2, b => by
   rw [mt,Fm.sub]
   split
   . rename_i e
     subst e
     split
     . rename_i h1
       intro h h'
       rw [mt_found f a1 b1 b h1 (fun c z hz => h' c z (mt_sb a2 b2 _ c z hz)),mt_found f a2 b2 _ h h']
     . exact fun h => nomatch h
   . exact fun h => nomatch h
 | .ng _,.lf _,b => fun h => nomatch h
 | .ng _,.jn _ _ _,b => fun h => nomatch h
 | .jn _ _ _,.lf _,b => fun h => nomatch h
 | .jn _ _ _,.ng _,b => fun h => nomatch h
def isC (k : Nat) (y : Fm) : Bool:=(mt (sch k) y fun _ => none).2
theorem isC_sub (k : Nat) (f : UInt8->Fm) : isC k ((sch k).sub f)=true:=(mt_case f (sch k) _ (sch_wf k) (by intro c x h; cases h)).1
theorem isC_taut {k : Nat} {y : Fm} (h : isC k y=true) (v : UInt8->Bool) : y.vl v=true:=by
 rw [mt_found (fun c => ((mt (sch k) y fun _ => none).1 c).getD (.lf 48)) (sch k) y _ h (fun c z hz => by rw [hz]; rfl),vl_sub v _ _ (sch_wf k)]
 exact sch_taut _ k
end Abs.Y

namespace Abs
open Go Go.RowKit
def cellD (v : AV) (x : D) : Prop:=v=.d x∨(v=.nilS∧x=.slice [])
def cellsD : List AV->List D->Prop
 | [],[] => True
 | v :: r,x :: s => cellD v x∧cellsD r s
 | _,_ => False
theorem cellsD_at : ∀ {vs : List AV} {xs : List D},cellsD vs xs->vs.length=xs.length∧∀ i,i < xs.length->cellD (vs.getD i .undef) (xs.getD i .nilptr)
 | [],[],_ => ⟨rfl,fun i hi => by simp at hi⟩
 | [],_ :: _,h => h.elim
 | _ :: _,[],h => h.elim
 | v :: r, x :: s, h => by
   have ih:=cellsD_at h.2
   refine ⟨by simp [ih.1],fun i hi => ?_⟩
   cases i with
   | zero => exact h.1
   | succ i => exact ih.2 i (by simpa using hi)
theorem rd_of_box {β : Nat->Value} {S S' : Nat->Prop} {w : World} {e : TypeId} {x : D} {cells : List AV} {v : Value} {F : Nat->Prop} (h : OK β S w (.box e cells) v F) (hc : cellsD cells x.cells) (hS : ∀ g,S g->g < w.heap.size->S' g) (hg : ∀ g,F g->S' g) :
 ∃ b c,v=.slice (some ⟨b,0,none⟩) 1 c∧Rd S' w (.ptr x) (.pointer (some ⟨b,0,none⟩)):=by
 obtain ⟨hlen,hcd⟩:=cellsD_at hc
 cases h with
 | box hF xs hv hw hrel =>
   have hw':=hw
   rcases hw.2 with ⟨h1,_⟩ | ⟨g,cap,cur,h1,_,h3,h4,_⟩
   . exact absurd h1 hv
   . subst h1
     refine ⟨g,cap,rfl,.ptr (fun i => xs.getD i Go.undef) (fun i hi => ⟨hg g (by rw [hF]; rfl),?_⟩) fun i hi => ?_⟩
     . have h9 : i < xs.length:=by rw [hw'.1,Nat.one_mul,hlen]; exact hi
       have h10:=ownsRow_cell hw' rfl h9
       rwa [Nat.zero_add]
     . have h5:=hrel i (by omega)
       rcases hcd i hi with h6 | ⟨h6,h7⟩
       . rw [h6] at h5
         cases h5 with
         | d h5 => exact h5.move fun g hg hl => ⟨hS g hg hl,rfl⟩
       . rw [h6] at h5
         rw [h7]
         generalize xs.getD i Go.undef=q at *
         cases h5 with
         | nilS => exact .nil _
theorem Ctr.boxD1 {P : Program} {f : FuncId} {xs : List D} {e : TypeId} {x : D} {cells : List AV} (hc : cellsD cells x.cells) (h : Ctr P f xs true (.p 0 0) [(0,.box e cells)]) : Ctr P f xs true (.d (.ptr x)) []:=by
 refine ⟨h.1,fun S w vs hl hr hG => (h.2 S w vs hl hr hG).mono fun en w' ⟨v,he,hf,β,φ,hrel,hobj,hown,hdis⟩ => ⟨v,he,hf,β,φ,?_,by simp [lk],by simp [lk],by simp [lk]⟩⟩
 obtain ⟨b,c,hb,hrd⟩:=rd_of_box (S':=free (fun g => w.heap.size<=g∨(true=true∧S g)) φ []) (hobj 0 (.box e cells) (by simp [lk])) hc (fun g hg _ => ⟨hg.1,by simp [lk]⟩) fun g hg => ⟨.inl (hown 0 (.box e cells) g (by simp [lk]) hg),by simp [lk]⟩
 cases hrel with
 | p h => rw [hb] at h; cases h; exact .d (by simpa using hrd)
theorem ret_p1 {P : Program} {t j : Nat} {e : TypeId} {cells : List AV} {st : St} (js : List Nat) (h : lk t (frzs js st).s=some (.p j 0)) (hj : lk j (frzs js st).o=some (.box e cells)) (hc : AV.renL (fun _ => j) cells=cells) :
 retQ P [.tmp t] true (.p 0 0) [(0,.box e cells)] .ret st:=by
 refine .inr ⟨rfl,js,?_⟩
 simp only [retO,resV,h]
 exact ⟨trivial,.one j rfl (by rw [hj,AO.ren,hc]),.inl trivial⟩
theorem ret_f3 {P : Program} {a b c : Nat} {x y z : D} {st : St} (js : List Nat) (h1 : lk a (frzs js st).s=some (.d x)) (h2 : lk b (frzs js st).s=some (.d y)) (h3 : lk c (frzs js st).s=some (.d z)) : retQ P [.tmp a,.tmp b,.tmp c] true (.tup [.d x,.d y,.d z]) [] .ret st:=by
 refine .inr ⟨rfl,js,?_⟩
 simp only [retO,resV,h1,h2,h3]
 exact ⟨trivial,⟨fun q => q,rfl,by simp,by simp⟩,.inl trivial⟩
end Abs

namespace Abs.Y
open Go Go.Proofs Abs
set_option maxRecDepth 100000

def fmD : Fm->D
 | .lf c => .ptr (.agg [.int .u8 c.toNat,.nilptr,.nilptr,.str (Fm.lf c).T])
 | .ng a => .ptr (.agg [.int .u8 126,fmD a,.nilptr,.str (Fm.ng a).T])
 | .jn o a b => .ptr (.agg [.int .u8 o.toNat,fmD a,fmD b,.str (Fm.jn o a b).T])
theorem enc_b : ∀ c : UInt8,c.toNat < 128->Utf8.encode (c.toNat : Int)=⟨#[c]⟩:=by
 have h : ∀ n,n < 128->Utf8.encode ((UInt8.ofNat n).toNat : Int)=⟨#[UInt8.ofNat n]⟩:=by decide +kernel
 intro c hc
 have:=h c.toNat hc
 rwa [UInt8.ofNat_toNat] at this
theorem lf_128 {c : UInt8} (h : isLf c=true) : c.toNat < 128:=by
 simp only [isLf,isLet,Bh,decide_eq_true_eq] at h
 rcases h with (h | h) | h
 . subst h; decide
 . subst h; decide
 . have:=UInt8.le_iff_toNat_le.1 h.2
   have e : (102 : UInt8).toNat=102:=rfl
   omega
theorem op_128 {c : UInt8} (h : isOp c=true) : c.toNat < 128:=by
 simp only [isOp,decide_eq_true_eq] at h
 rcases h with h | h | h<;>(subst h; decide)
theorem T_ng (a : Fm) : (ByteArray.mk #[126])++a.T=(Fm.ng a).T:=by
 apply ext_BL
 show ((ByteArray.mk #[126])++a.T).data.toList=_
 rw [ByteArray.data_append,Array.toList_append]; rfl
theorem T_jn (o : UInt8) (a b : Fm) : (ByteArray.mk #[40])++a.T++⟨#[o]⟩++b.T++ByteArray.mk #[41]=(Fm.jn o a b).T:=by
 apply ext_BL
 show (((((ByteArray.mk #[40])++a.T)++⟨#[o]⟩)++b.T)++ByteArray.mk #[41]).data.toList=_
 simp only [ByteArray.data_append,Array.toList_append]
 show ([40]++a.tl++[o]++b.tl)++[41]=40 :: (a.tl++o :: (b.tl++[41]))
 simp

@[reducible] def fmC (x : Fm) (c : Int) (a b : D) : D:=.agg [.int .u8 c,a,b,.str x.T]
theorem leaf_ok (c : UInt8) (h : c.toNat < 128) : Ctr Tryd.prog 163 [.int .u8 c.toNat] true (.d (fmD (.lf c))) []:=by
 unfold fmD
 refine Ctr.boxD1 (e:=140) (cells:=[.d (.int .u8 c.toNat),.d .nilptr,.d .nilptr,.d (.str (Fm.lf c).T)]) ⟨.inl rfl,.inl rfl,.inl rfl,.inl rfl,trivial⟩ ?_
 have e:=enc_b c h
 have e2 : (Fm.lf c).T=⟨#[c]⟩:=rfl
 rw [e2]
 refine Ctr.of (n:=8) (rs:=[.tmp 2]) Tryd.func163 rfl rfl Tryd.ntmps163 rfl rfl (by kernel_rfl) Tryd.checked.mixed ?_
 simp (disch:=first | omega | decide +kernel) only [e,Tryd.underlying9,go_sem,Qa,Qb,Qc,Qd,Qe,↓reduceIte,reduceCtorEq,Qf,Qg,Qh]
 (repeat' (first | ((first | (refine gsel_split (fun q' => ?_) (fun q' => ?_)<;>(have h':=q')<;>(try simp only [za1,za2,Ba,Bb,za3,ne_eq,za4,za5,za6,Ia,Ib,Ic,Ie,Da,Bc,Bh,Be,za7,za8] at h')<;>try (exfalso; omega)) | (have q':=trivial; first | refine hE _ _ ret_ne ?_ | refine hE _ _ exit_ne ?_))<;>(try simp (disch:=first | omega | decide +kernel) only [q',e,Tryd.underlying9,go_sem,Qa,Qb,Qc,Qd,Qe,↓reduceIte,reduceCtorEq,Qf,Qg,Qh])<;>clear q') | refine hN _ ?_ ?_ Wk.kk | with_reducible refine And.intro ?_ ?_ | with_reducible omega | exact ok_ints | exact cells_ints | exact no_mem | with_reducible exact plain_ints | (refine le_maxLen ?_; omega) | (refine za9 ⟨?_,?_⟩) | (simp only [go_sem,Qc,Qb,zb1,zb2,forall_eq]; done)))
 all_goals (first | exact ret_p1 [] rfl rfl rfl)
theorem not_ok (a : Fm) (hs : a.T.size<=1000000) : Ctr Tryd.prog 165 [fmD a] true (.d (fmD (.ng a))) []:=by
 rw [show fmD (.ng a)=.ptr (.agg [.int .u8 126,fmD a,.nilptr,.str (Fm.ng a).T]) from rfl]
 refine Ctr.boxD1 (e:=140) (cells:=[.d (.int .u8 126),.d (fmD a),.d .nilptr,.d (.str (Fm.ng a).T)]) ⟨.inl rfl,.inl rfl,.inl rfl,.inl rfl,trivial⟩ ?_
 have e:=T_ng a
 have hz : (ByteArray.mk #[126]).size=1:=rfl
 generalize (Fm.ng a).T=t at *
 obtain ⟨c,x,y,h⟩ : ∃ (c : Int) (x y : D),fmD a=.ptr (.agg [.int .u8 c,x,y,.str a.T]):=by cases a<;>exact ⟨_,_,_,rfl⟩
 generalize a.T=at_ at *
 rw [h]
 refine Ctr.of (n:=11) (rs:=[.tmp 2]) Tryd.func165 rfl rfl Tryd.ntmps165 rfl rfl (by kernel_rfl) Tryd.checked.mixed ?_
 simp (disch:=first | omega | decide +kernel) only [e,go_sem,Qa,Qb,Qc,Qd,Qe,↓reduceIte,reduceCtorEq,Qf,Qg,Qh]
 (repeat' (first | ((first | (refine gsel_split (fun q' => ?_) (fun q' => ?_)<;>(have h':=q')<;>(try simp only [za1,za2,Ba,Bb,za3,ne_eq,za4,za5,za6,Ia,Ib,Ic,Ie,Da,Bc,Bh,Be,za7,za8] at h')<;>try (exfalso; omega)) | (have q':=trivial; first | refine hE _ _ ret_ne ?_ | refine hE _ _ exit_ne ?_))<;>(try simp (disch:=first | omega | decide +kernel) only [q',e,hz,go_sem,Qa,Qb,Qc,Qd,Qe,↓reduceIte,reduceCtorEq,Qf,Qg,Qh])<;>clear q') | refine hN _ ?_ ?_ Wk.kk | with_reducible refine And.intro ?_ ?_ | with_reducible omega | exact ok_ints | exact cells_ints | exact no_mem | with_reducible exact plain_ints | (refine le_maxLen ?_; omega) | (refine za9 ⟨?_,?_⟩) | (simp only [go_sem,Qc,Qb,zb1,zb2,forall_eq]; done)))
 all_goals (first | exact ret_p1 [] rfl rfl rfl)
theorem join_ok (o : UInt8) (a b : Fm) (ho : o.toNat < 128) (ha : a.T.size<=1000000) (hb : b.T.size<=1000000) : Ctr Tryd.prog 164 [.int .u8 o.toNat,fmD a,fmD b] true (.d (fmD (.jn o a b))) []:=by
 rw [show fmD (.jn o a b)=.ptr (.agg [.int .u8 o.toNat,fmD a,fmD b,.str (Fm.jn o a b).T]) from rfl]
 refine Ctr.boxD1 (e:=140) (cells:=[.d (.int .u8 o.toNat),.d (fmD a),.d (fmD b),.d (.str (Fm.jn o a b).T)]) ⟨.inl rfl,.inl rfl,.inl rfl,.inl rfl,trivial⟩ ?_
 have e:=T_jn o a b
 have e1:=enc_b o ho
 have hz1 : (ByteArray.mk #[40]).size=1:=rfl
 have hz2 : (ByteArray.mk #[41]).size=1:=rfl
 have hz3 : (ByteArray.mk #[o]).size=1:=rfl
 generalize (Fm.jn o a b).T=t at *
 obtain ⟨c,x,y,h⟩ : ∃ (c : Int) (x y : D),fmD a=.ptr (.agg [.int .u8 c,x,y,.str a.T]):=by cases a<;>exact ⟨_,_,_,rfl⟩
 obtain ⟨c',x',y',h'⟩ : ∃ (c : Int) (x y : D),fmD b=.ptr (.agg [.int .u8 c,x,y,.str b.T]):=by cases b<;>exact ⟨_,_,_,rfl⟩
 generalize a.T=at_ at *
 generalize b.T=bt at *
 rw [h,h']
 refine Ctr.of (n:=26) (rs:=[.tmp 6]) Tryd.func164 rfl rfl Tryd.ntmps164 rfl rfl (by kernel_rfl) Tryd.checked.mixed ?_
 simp (disch:=first | omega | decide +kernel) only [e1,e,Tryd.underlying9,go_sem,Qa,Qb,Qc,Qd,Qe,↓reduceIte,reduceCtorEq,Qf,Qg,Qh]
 (repeat' (first | ((first | (refine gsel_split (fun q' => ?_) (fun q' => ?_)<;>(have h':=q')<;>(try simp only [za1,za2,Ba,Bb,za3,ne_eq,za4,za5,za6,Ia,Ib,Ic,Ie,Da,Bc,Bh,Be,za7,za8] at h')<;>try (exfalso; omega)) | (have q':=trivial; first | refine hE _ _ ret_ne ?_ | refine hE _ _ exit_ne ?_))<;>(try simp (disch:=first | omega | decide +kernel) only [q',e1,e,Tryd.underlying9,hz1,hz2,hz3,ByteArray.size_append,go_sem,Qa,Qb,Qc,Qd,Qe,↓reduceIte,reduceCtorEq,Qf,Qg,Qh])<;>clear q') | refine hN _ ?_ ?_ Wk.kk | with_reducible refine And.intro ?_ ?_ | with_reducible omega | exact ok_ints | exact cells_ints | exact no_mem | with_reducible exact plain_ints | (refine le_maxLen ?_; omega) | (refine za9 ⟨?_,?_⟩) | (simp only [go_sem,Qc,Qb,zb1,zb2,forall_eq]; done)))
 all_goals (first | exact ret_p1 [] rfl rfl rfl)
end Abs.Y
