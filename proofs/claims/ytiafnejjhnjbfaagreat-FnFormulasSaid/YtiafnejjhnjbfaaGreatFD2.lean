/- What functions of this program compute, over plain data. No condition. -/
import Derived.Test.YtiafnejjhnjbfaaGreatAbsRow
import Derived.Test.YtiafnejjhnjbfaaGreatFacts
import Derived.Test.YtiafnejjhnjbfaaGreatAbsBox
import Derived.Test.YtiafnejjhnjbfaaGreatAbsBits
set_option linter.all false
open Nat renaming reduceEqDiff -> Qa, reduceLT -> Qb, reduceAdd -> Qc, reduceMul -> Qd, reduceSub -> Qe, reduceLeDiff -> Qf, reduceSubDiff -> Qg, reduceBEq -> Qh
open Bool renaming not_eq_true' -> Ba, not_eq_false' -> Bb, and_eq_true -> Bc, or_eq_true -> Bh, or_eq_false_iff -> Be
open Int renaming ofNat_lt -> Ia, ofNat_le -> Ib, not_lt -> Ic, not_le -> Ie
open Decidable renaming not_not -> Da
namespace Abs

def szL {α : Type} (f : α->Int->Int) : List α->Int->Int
 | [],left => left
 | x :: r,left => if f x left < 0 then -1 else szL f r (f x left)
def szS {α : Type} (f : α->Int->Int) (a : List α) (left : Int) : Int:=if left - a.length < 0 then -1 else szL f a (left - a.length)
def szI (a : List Int) (left : Int) : Int:=if left - a.length < 0 then -1 else left - a.length
def SzF {α : Type} (f : α->Int->Int) : Prop:=∀ x left,0<=left->f x left=-1∨(0<=f x left∧f x left<=left)
end Abs

namespace Abs
open Go Go.Proofs
theorem retM_ds {P : Program} {t : Nat} {st : St} {x : D} {u : Nat->Value} {ob : AO} (h : lk t st.s=some (.d x)) (ho : lk 0 st.o=some ob) (hk : lk 1000000000 st.s=some (.hdr 0 (u 0))) (hr : ob.ren (fun j => j)=ob) :
 retM P [.tmp t] u [0] true (.d x) [(0,ob)] .ret st:=by
 simp only [retM,resV,h]
 exact ⟨trivial,⟨fun j => j,rfl,by simpa [hr] using ho,by simp,⟨rfl,hk,trivial⟩⟩,.inl trivial⟩
theorem CtrR.mono {P f avs oi keep sh} {R R' : AV->List (Nat × AO)->Prop} (h : CtrR P f avs oi keep sh R) (hR : ∀ r o,R r o->R' r o) : CtrR P f avs oi keep sh R' :=
 ⟨h.1,fun S β φ w vs h1 h2 h3 h4 hG => (h.2 S β φ w vs h1 h2 h3 h4 hG).mono fun _ _ ⟨v,r,o,e,hr,h5,h6⟩ => ⟨v,r,o,e,hR r o hr,h5,h6⟩⟩
end Abs
namespace Abs.Y
open Go Go.Proofs Abs
set_option maxRecDepth 100000

@[reducible] def D.bytes (c : List Int) : D:=.slice (c.map (.int .u8))
@[reducible] def curB (code : List Int) (at_ : Nat) (seed : Int) : AO:=.box 53 [.d (D.bytes code),.d (.int .i64 (at_ : Nat)),.d (.int .u64 seed)]
@[reducible] def curO (code : List Int) (at_ : Nat) (seed : Int) : List (Nat × AO):=[(0,curB code at_ seed)]
structure CodeOK (code : List Int) : Prop where
 len : code.length<=1048576
 byte : ∀ i,0<=code.getD i 0∧code.getD i 0 < 256
structure CurOK (at_ : Nat) (seed : Int) : Prop where
 at_ : at_<=1099511627776
 seed : 0<=seed∧seed < 18446744073709551616
theorem el_u8 {xs : List Int} {i : Nat} (h : i < xs.length) : el (xs.map (.int .u8)) i=.int .u8 (xs.getD i 0):=el_map (f:=D.int .u8) 0 h
def seedN (seed b : Int) : Int:=IntKind.u64.wrap (IntKind.u64.wrap (IntKind.u64.wrap (seed * 6364136223846793005) + IntKind.u64.wrap b) + 337411)
theorem wrap_u64 (n : Int) : 0<=IntKind.u64.wrap n∧IntKind.u64.wrap n < 18446744073709551616:=by
 simp only [IntKind.wrap,IntKind.signed,IntKind.bits]
 simp; omega
theorem seedN_bd (s b : Int) : 0<=seedN s b∧seedN s b < 18446744073709551616:=wrap_u64 _
theorem bitV_and_u64 (x : Int) : 0<=bitV .and .u64 x 255∧bitV .and .u64 x 255<=255:=by
 have h : (BitVec.ofInt 64 x &&& BitVec.ofInt 64 255).toNat<=255:=by
  rw [BitVec.toNat_and]; exact Nat.and_le_right
 have e : bitV .and .u64 x 255=IntKind.wrap .u64 ((BitVec.ofInt 64 x &&& BitVec.ofInt 64 255).toNat : Nat):=rfl
 generalize (BitVec.ofInt 64 x &&& BitVec.ofInt 64 255).toNat=n at *
 rw [e]
 simp only [IntKind.wrap,IntKind.signed,IntKind.bits]
 simp; omega
def drawX (s : Int) : Int:=IntKind.i64.wrap (bitV .and .u64 (s.fdiv (2 ^ min (Int.toNat 40) 64)) 255)
theorem drawX_bd (s : Int) : 0<=drawX s∧drawX s<=255:=by
 unfold drawX
 have h:=bitV_and_u64 (s.fdiv (2 ^ min (Int.toNat 40) 64))
 rw [wrap_of (by omega)]
 omega
theorem next_ok {code : List Int} (hc : CodeOK code) {at_ : Nat} {seed : Int} (h : CurOK at_ seed) : ∃ x seed',0<=x∧x<=255∧0<=seed'∧seed' < 18446744073709551616 ∧
 CtrM Tryz.prog 63 [.p 0 0] (curO code at_ seed) [0] true (.d (.int .i64 x)) (curO code (at_ + 1) seed'):=by
 have hl:=hc.len
 have hb:=hc.byte at_
 obtain ⟨ha,hs⟩:=h
 by_cases hlt : at_ < code.length
 . have hei:=el_u8 hlt
   have he2 : (at_ : Int) + 1=((at_ + 1 : Nat) : Int):=by omega
   generalize code.getD at_ 0=b at *
   refine ⟨b,seedN seed b,hb.1,by omega,(seedN_bd _ _).1,(seedN_bd _ _).2,?_⟩
   refine CtrM.of (n:=62) (rs:=[.tmp 2]) Tryz.func63 rfl rfl Tryz.ntmps63 rfl rfl (by kernel_rfl) Tryz.checked.mixed ?_; intro u
   simp (disch:=first | omega | decide +kernel) only [curO,curB,D.bytes,hei,setL,he2,go_sem,Qa,Qb,Qc,Qd,Qe,↓reduceIte,reduceCtorEq,Qf,Qg,Qh]
   (repeat' (first | ((first | (refine gsel_split (fun q' => ?_) (fun q' => ?_)<;>(have h':=q')<;>(try simp only [za1,za2,Ba,Bb,za3,ne_eq,za4,za5,za6,Ia,Ib,Ic,Ie,Da,Bc,Bh,Be,za7,za8] at h')<;>try (exfalso; omega)) | (have q':=trivial; first | refine hE _ _ ret_ne ?_ | refine hE _ _ exit_ne ?_))<;>(try simp (disch:=first | omega | decide +kernel) only [q',D.bytes,hei,setL,he2,Int.toNat_natCast,go_sem,Qa,Qb,Qc,Qd,Qe,↓reduceIte,reduceCtorEq,Qf,Qg,Qh])<;>clear q') | refine hN _ ?_ ?_ Wk.kk | with_reducible refine And.intro ?_ ?_ | with_reducible omega | exact ok_ints | exact cells_ints | exact no_mem | with_reducible exact plain_ints | (refine le_maxLen ?_; omega) | (refine za9 ⟨?_,?_⟩) | (simp only [go_sem,Qc,Qb,zb1,zb2,forall_eq]; done)))
   all_goals (first | omega | exact retM_ds rfl rfl rfl rfl)
 . have he2 : (at_ : Int) + 1=((at_ + 1 : Nat) : Int):=by omega
   refine ⟨drawX (seedN seed 0),seedN seed 0,(drawX_bd _).1,(drawX_bd _).2,(seedN_bd _ _).1,(seedN_bd _ _).2,?_⟩
   refine CtrM.of (n:=62) (rs:=[.tmp 2]) Tryz.func63 rfl rfl Tryz.ntmps63 rfl rfl (by kernel_rfl) Tryz.checked.mixed ?_; intro u
   simp (disch:=first | omega | decide +kernel) only [curO,curB,D.bytes,setL,he2,go_sem,Qa,Qb,Qc,Qd,Qe,↓reduceIte,reduceCtorEq,Qf,Qg,Qh]
   (repeat' (first | ((first | (refine gsel_split (fun q' => ?_) (fun q' => ?_)<;>(have h':=q')<;>(try simp only [za1,za2,Ba,Bb,za3,ne_eq,za4,za5,za6,Ia,Ib,Ic,Ie,Da,Bc,Bh,Be,za7,za8] at h')<;>try (exfalso; omega)) | (have q':=trivial; first | refine hE _ _ ret_ne ?_ | refine hE _ _ exit_ne ?_))<;>(try simp (disch:=first | omega | decide +kernel) only [q',D.bytes,setL,he2,Int.toNat_natCast,go_sem,Qa,Qb,Qc,Qd,Qe,↓reduceIte,reduceCtorEq,Qf,Qg,Qh])<;>clear q') | with_reducible refine And.intro ?_ ?_ | with_reducible omega | exact no_mem | (refine le_maxLen ?_; omega) | (refine za9 ⟨?_,?_⟩) | (simp only [go_sem,Qc,Qb,zb1,zb2,forall_eq]; done)))
   all_goals (first | omega | exact retM_ds rfl rfl rfl rfl)
def Draws (f : FuncId) (xs : List AV) (k : Nat) (Q : AV->Prop) (code : List Int) : Prop:=∀ at_ seed,at_ + k<=1099511627776->0<=seed->seed < 18446744073709551616 ->
 CtrR Tryz.prog f (.p 0 0 :: xs) (curO code at_ seed) [0] true fun r oo => ∃ at' seed',at_<=at'∧at'<=at_ + k∧0<=seed'∧seed' < 18446744073709551616∧oo=curO code at' seed'∧Q r
theorem callX_draw {N f cavs st dst K} (J : Nat) {xs k Q code at_ seed} (hs : Draws f xs k Q code) (hp : passM Tryz.prog (delL [J] st.o) (nth [J]) true cavs (.p 0 0 :: xs)) (ho : lkn J st.o=some ((curB code at_ seed).ren (nth [J])))
 (hd : dstB N dst) (h1 : at_ + k<=1099511627776) (h2 : 0<=seed) (h3 : seed < 18446744073709551616)
 (hK : ∀ r at' seed',at_<=at'->at'<=at_ + k->0<=seed'->seed' < 18446744073709551616->Q r->K (impM st dst (nth [J]) [] r (curO code at' seed'))) : callX Tryz.prog N f cavs dst K st :=
 callX_rel [J] [J] [] (hs at_ seed h1 h2 h3) hp ⟨ho,trivial⟩ (by simp [namesI,keysO,nth]) hd fun r oo ⟨at',seed',a1,a2,a3,a4,e,hQ⟩ => by
  subst e; exact ⟨by simp [namesOK,keysO,nth],hK r at' seed' a1 a2 a3 a4 hQ⟩
theorem retR_draw {t : Nat} {u : Nat->Value} {st : St} {code : List Int} {at_ k : Nat} {Q : AV->Prop} {at' : Nat} {seed' : Int} {x : D} (h : lk t st.s=some (.d x)) (ho : lk 0 st.o=some (curB code at' seed')) (hk : lk 1000000000 st.s=some (.hdr 0 (u 0)))
 (h1 : at_<=at') (h2 : at'<=at_ + k) (h3 : 0<=seed') (h4 : seed' < 18446744073709551616) (hQ : Q (.d x)) :
 retR Tryz.prog [.tmp t] u [0] true (fun r oo => ∃ at' seed',at_<=at'∧at'<=at_ + k∧0<=seed'∧seed' < 18446744073709551616∧oo=curO code at' seed'∧Q r) .ret st :=
 ⟨_,_,⟨at',seed',h1,h2,h3,h4,rfl,hQ⟩,retM_ds h ho hk rfl⟩
@[reducible] def QI (Q : Int->Prop) : AV->Prop:=fun r => ∃ x,r=.d (.int .i64 x)∧Q x
theorem next_draws {code : List Int} (hc : CodeOK code) : Draws 63 [] 1 (QI fun x => 0<=x∧x<=255) code:=fun at_ seed h1 h2 h3 => by
 obtain ⟨x,s,a1,a2,a3,a4,h⟩:=next_ok hc (at_:=at_) (seed:=seed) ⟨by omega,h2,h3⟩
 exact h.rel.mono fun r o ⟨e1,e2⟩ => ⟨at_ + 1,s,by omega,by omega,a3,a4,e2,x,e1,a1,a2⟩
end Abs.Y

namespace Abs.Y
open Go Go.Proofs Abs
set_option maxRecDepth 100000
set_option maxHeartbeats 1000000

@[reducible] def QB : AV->Prop:=fun r => ∃ b : Bool,r=.d (.bool b)∧True
theorem pick_fin {n y : Int} (h : 1 < n) (h0 : 0<=y) (h1 : y<=65535) : (n<=1->y % n=0)∧0<=y % n∧(1 < n->y % n < n)∧y % n<=65535:=by
 have b1:=Int.emod_nonneg y (b:=n) (by omega)
 have b2:=Int.emod_lt_of_pos y (b:=n) (by omega)
 have b3:=Int.mul_ediv_add_emod y n
 have b4:=Int.mul_nonneg (a:=n) (b:=y / n) (by omega) (Int.ediv_nonneg h0 (by omega))
 generalize y % n=m at *
 generalize n * (y / n)=z at *
 omega
theorem pick_ok {code : List Int} (hc : CodeOK code) (n : Int) (hn : n<=9223372036854775807∧-9223372036854775808<=n) :
 Draws 53 [.d (.int .i64 n)] 2 (QI fun x => (n<=1->x=0)∧0<=x∧(1 < n->x < n)∧x<=65535) code:=fun at_ seed h1 h2 h3 => by
 have c1:=next_draws hc
 have e1 : ∀ x : Int,0<=x->x.tmod n=x % n:=fun x hx => Int.tmod_eq_emod_of_nonneg hx
 refine CtrR.of (n:=20) (rs:=[.tmp 4]) Tryz.func53 rfl rfl Tryz.ntmps53 rfl rfl (by kernel_rfl) Tryz.checked.mixed ?_; intro u
 simp (disch:=first | omega | decide +kernel) only [curO,curB,D.bytes,go_sem,Qa,Qb,Qc,Qd,Qe,↓reduceIte,reduceCtorEq,Qf,Qg,Qh]
 (repeat' (first | ((first | (refine gsel_split (fun q' => ?_) (fun q' => ?_)<;>(have h':=q')<;>(try simp only [za1,za2,Ba,Bb,za3,ne_eq,za4,za5,za6,Ia,Ib,Ic,Ie,Da,Bc,Bh,Be,za7,za8] at h')<;>try (exfalso; omega)) | (have q':=trivial; first | (refine callX_draw _ (c1) ⟨.inl rfl,trivial⟩ rfl (by simp [dstB]) (by omega) (by omega) (by omega) ?_; rintro _ at1 sd1 hat11 hat12 hsd11 hsd12 ⟨x1,rfl,hx1⟩) | refine hE _ _ ret_ne ?_ | refine hE _ _ exit_ne ?_))<;>(try simp (disch:=first | omega | decide +kernel) only [q',curO,curB,D.bytes,e1,go_sem,Qa,Qb,Qc,Qd,Qe,↓reduceIte,reduceCtorEq,Qf,Qg,Qh])<;>clear q') | with_reducible refine And.intro ?_ ?_ | with_reducible omega | (refine le_maxLen ?_; omega)))
 all_goals (first | omega | (refine retR_draw rfl rfl rfl (by omega) (by omega) (by omega) (by omega) ⟨_,rfl,?_⟩))
 all_goals (first | exact pick_fin (by omega) (by omega) (by omega) | (show _∧_; refine ⟨fun _ => rfl,?_,?_,?_⟩<;>omega))
theorem one_ok {code : List Int} (hc : CodeOK code) (n : Int) (hn : n<=9223372036854775807∧-9223372036854775808<=n) :
 Draws 35 [.d (.int .i64 n)] 2 QB code:=fun at_ seed h1 h2 h3 => by
 have c1:=pick_ok hc n hn
 refine CtrR.of (n:=9) (rs:=[.tmp 4]) Tryz.func35 rfl rfl Tryz.ntmps35 rfl rfl (by kernel_rfl) Tryz.checked.mixed ?_; intro u
 simp (disch:=first | omega | decide +kernel) only [curO,curB,D.bytes,go_sem,Qa,Qb,Qc,Qd,Qe,↓reduceIte,reduceCtorEq,Qf,Qg,Qh]
 (repeat' (first | ((first | (refine gsel_split (fun q' => ?_) (fun q' => ?_)<;>(have h':=q')<;>(try simp only [za1,za2,Ba,Bb,za3,ne_eq,za4,za5,za6,Ia,Ib,Ic,Ie,Da,Bc,Bh,Be,za7,za8] at h')<;>try (exfalso; omega)) | (have q':=trivial; first | (refine callX_draw _ (c1) ⟨.inl rfl,.inl rfl,trivial⟩ rfl (by simp [dstB]) (by omega) (by omega) (by omega) ?_; rintro _ at1 sd1 hat11 hat12 hsd11 hsd12 ⟨x1,rfl,hx1⟩) | refine hE _ _ ret_ne ?_ | refine hE _ _ exit_ne ?_))<;>(try simp (disch:=first | omega | decide +kernel) only [q',curO,curB,D.bytes,go_sem,Qa,Qb,Qc,Qd,Qe,↓reduceIte,reduceCtorEq,Qf,Qg,Qh])<;>clear q') | with_reducible refine And.intro ?_ ?_ | with_reducible omega | (refine le_maxLen ?_; omega)))
 all_goals (first | omega | (exact retR_draw rfl rfl rfl (by omega) (by omega) (by omega) (by omega) ⟨_,rfl,trivial⟩))
end Abs.Y

namespace Abs.Y
open Go Go.Proofs Abs
set_option maxRecDepth 100000
set_option maxHeartbeats 1000000

def DrawsL (f : FuncId) (xs : List AV) (k : Nat) (o : AO) (Q : AV->Prop) (code : List Int) : Prop:=∀ at_ seed,at_ + k<=1099511627776->0<=seed->seed < 18446744073709551616 ->
 CtrR Tryz.prog f (.p 0 0 :: xs) [(0,curB code at_ seed),(1,o)] [0,1] true fun r oo => ∃ at' seed',at_<=at'∧at'<=at_ + k∧0<=seed'∧seed' < 18446744073709551616∧oo=[(0,curB code at' seed'),(1,o)]∧Q r
theorem callX_drawL {N f cavs st dst K} (J L : Nat) {xs k o Q code at_ seed} (hs : DrawsL f xs k o Q code) (hp : passM Tryz.prog (delL [J,L] st.o) (nth [J,L]) true cavs (.p 0 0 :: xs)) (ho : lkn J st.o=some ((curB code at_ seed).ren (nth [J,L])))
 (hl : lkn L st.o=some (o.ren (nth [J,L]))) (hJL : J ≠ L) (hd : dstB N dst) (h1 : at_ + k<=1099511627776) (h2 : 0<=seed) (h3 : seed < 18446744073709551616)
 (hK : ∀ r at' seed',at_<=at'->at'<=at_ + k->0<=seed'->seed' < 18446744073709551616->Q r->K (impM st dst (nth [J,L]) [] r [(0,curB code at' seed'),(1,o)])) : callX Tryz.prog N f cavs dst K st :=
 callX_rel [J,L] [J,L] [] (hs at_ seed h1 h2 h3) hp ⟨ho,hl,trivial⟩ (by simp [namesI,keysO,nth,hJL,Ne.symm hJL]) hd fun r oo ⟨at',seed',a1,a2,a3,a4,e,hQ⟩ => by
  subst e; exact ⟨by simp [namesOK,keysO,nth,hJL,Ne.symm hJL],hK r at' seed' a1 a2 a3 a4 hQ⟩
theorem retM_ds2 {P : Program} {t : Nat} {st : St} {x : D} {u : Nat->Value} {o0 o1 : AO} (h : lk t st.s=some (.d x)) (h0 : lk 0 st.o=some o0) (h1 : lk 1 st.o=some o1) (k0 : lk 1000000000 st.s=some (.hdr 0 (u 0))) (k1 : lk 1000000001 st.s=some (.hdr 1 (u 1)))
 (r0 : o0.ren (fun j => j)=o0) (r1 : o1.ren (fun j => j)=o1) : retM P [.tmp t] u [0,1] true (.d x) [(0,o0),(1,o1)] .ret st:=by
 simp only [retM,resV,h]
 exact ⟨trivial,⟨fun j => j,rfl,by simpa [r0,r1] using ⟨h0,h1⟩,by simp,⟨rfl,k0,⟨rfl,k1,trivial⟩⟩⟩,.inl trivial⟩
theorem retR_drawL {t : Nat} {u : Nat->Value} {st : St} {code : List Int} {at_ k : Nat} {Q : AV->Prop} {o : AO} {at' : Nat} {seed' : Int} {x : D} (h : lk t st.s=some (.d x)) (ho : lk 0 st.o=some (curB code at' seed')) (hl : lk 1 st.o=some o) (hk : lk 1000000000 st.s=some (.hdr 0 (u 0))) (hk1 : lk 1000000001 st.s=some (.hdr 1 (u 1)))
 (hr : o.ren (fun j => j)=o) (h1 : at_<=at') (h2 : at'<=at_ + k) (h3 : 0<=seed') (h4 : seed' < 18446744073709551616) (hQ : Q (.d x)) :
 retR Tryz.prog [.tmp t] u [0,1] true (fun r oo => ∃ at' seed',at_<=at'∧at'<=at_ + k∧0<=seed'∧seed' < 18446744073709551616∧oo=[(0,curB code at' seed'),(1,o)]∧Q r) .ret st :=
 ⟨_,_,⟨at',seed',h1,h2,h3,h4,rfl,hQ⟩,retM_ds2 h ho hl hk hk1 rfl hr⟩
theorem amongL_ok {code : List Int} (hc : CodeOK code) (l : List Int) (hl : 1<=l.length∧l.length<=60000) :
 DrawsL 62 [.sl 1] 2 (.arr 3 1 (l.map (.int .i64))) (QI fun x => x ∈ l) code:=fun at_ seed h1 h2 h3 => by
 have c1:=pick_ok hc (l.length : Nat) (by omega)
 have hei : ∀ x : Int,0<=x->x < l.length->el (l.map (D.int .i64)) x.toNat=.int .i64 (l.getD x.toNat 0):=fun x hx hl => el_ints (by omega)
 have hm : ∀ x : Int,0<=x->x < l.length->l.getD x.toNat 0 ∈ l:=fun x hx hl => by
  have : x.toNat < l.length:=by omega
  simp [List.getD_eq_getElem?_getD,this]
 refine CtrR.of (n:=12) (rs:=[.tmp 4]) Tryz.func62 rfl rfl Tryz.ntmps62 rfl rfl (by kernel_rfl) Tryz.checked.mixed ?_; intro u
 simp (disch:=first | omega | decide +kernel) only [curO,curB,D.bytes,D.ints,go_sem,Qa,Qb,Qc,Qd,Qe,↓reduceIte,reduceCtorEq,Qf,Qg,Qh]
 (repeat' (first | ((first | (refine gsel_split (fun q' => ?_) (fun q' => ?_)<;>(have h':=q')<;>(try simp only [za1,za2,Ba,Bb,za3,ne_eq,za4,za5,za6,Ia,Ib,Ic,Ie,Da,Bc,Bh,Be,za7,za8] at h')<;>try (exfalso; omega)) | (have q':=trivial; first | (refine callX_draw _ (c1) ⟨.inl rfl,.inl rfl,trivial⟩ rfl (by simp [dstB]) (by omega) (by omega) (by omega) ?_; rintro _ at1 sd1 hat11 hat12 hsd11 hsd12 ⟨x1,rfl,hx1⟩) | refine hE _ _ ret_ne ?_ | refine hE _ _ exit_ne ?_))<;>(try simp (disch:=first | omega | decide +kernel) only [q',curO,curB,D.bytes,D.ints,hei,go_sem,Qa,Qb,Qc,Qd,Qe,↓reduceIte,reduceCtorEq,Qf,Qg,Qh])<;>clear q') | with_reducible refine And.intro ?_ ?_ | with_reducible omega | (refine le_maxLen ?_; omega)))
 all_goals (first | omega | (exact retR_drawL rfl rfl rfl rfl rfl rfl (by omega) (by omega) (by omega) (by omega) ⟨_,rfl,hm _ (by omega) (by omega)⟩))
theorem amongB_ok {code : List Int} (hc : CodeOK code) (l : List Int) (lo hi : Int) (hl : 1<=l.length∧l.length<=60000) (hb : ∀ x ∈ l,lo<=x∧x<=hi) :
 DrawsL 62 [.sl 1] 2 (.arr 3 1 (l.map (.int .i64))) (QI fun x => lo<=x∧x<=hi) code:=fun at_ seed h1 h2 h3 =>
 (amongL_ok hc l hl at_ seed h1 h2 h3).mono fun _ _ ⟨a,s,e1,e2,e3,e4,e5,x,e6,e7⟩ => ⟨a,s,e1,e2,e3,e4,e5,x,e6,hb x e7⟩
end Abs.Y

namespace Abs.Y
open Go Go.Proofs Abs
set_option maxRecDepth 100000
set_option maxHeartbeats 1000000

def QT (n : Nat) (r : AV) : Prop:=∃ s : ByteArray,r=.d (.str s)∧s.size<=n
theorem ofL_ok {code : List Int} (hc : CodeOK code) (ss : List ByteArray) (n : Nat) (hl : 1<=ss.length∧ss.length<=60000) (hn : ∀ s ∈ ss,s.size<=n) :
 DrawsL 38 [.sl 1] 2 (.arr 9 1 (ss.map .str)) (QT n) code:=fun at_ seed h1 h2 h3 => by
 have c1:=pick_ok hc (ss.length : Nat) (by omega)
 have hei : ∀ x : Int,0<=x->x < ss.length->el (ss.map D.str) x.toNat=.str (ss.getD x.toNat ByteArray.empty):=fun x hx hl => el_map (f:=D.str) ByteArray.empty (by omega)
 have hm : ∀ x : Int,0<=x->x < ss.length->(ss.getD x.toNat ByteArray.empty).size<=n:=fun x hx hl => hn _ (getD_mem (by omega))
 refine CtrR.of (n:=12) (rs:=[.tmp 4]) Tryz.func38 rfl rfl Tryz.ntmps38 rfl rfl (by kernel_rfl) Tryz.checked.mixed ?_; intro u
 simp (disch:=first | omega | decide +kernel) only [curO,curB,D.bytes,go_sem,Qa,Qb,Qc,Qd,Qe,↓reduceIte,reduceCtorEq,Qf,Qg,Qh]
 (repeat' (first | ((first | (refine gsel_split (fun q' => ?_) (fun q' => ?_)<;>(have h':=q')<;>(try simp only [za1,za2,Ba,Bb,za3,ne_eq,za4,za5,za6,Ia,Ib,Ic,Ie,Da,Bc,Bh,Be,za7,za8] at h')<;>try (exfalso; omega)) | (have q':=trivial; first | (refine callX_draw _ (c1) ⟨.inl rfl,.inl rfl,trivial⟩ rfl (by simp [dstB]) (by omega) (by omega) (by omega) ?_; rintro _ at1 sd1 hat11 hat12 hsd11 hsd12 ⟨x1,rfl,hx1⟩) | refine hE _ _ ret_ne ?_ | refine hE _ _ exit_ne ?_))<;>(try simp (disch:=first | omega | decide +kernel) only [q',curO,curB,D.bytes,hei,List.length_map,go_sem,Qa,Qb,Qc,Qd,Qe,↓reduceIte,reduceCtorEq,Qf,Qg,Qh])<;>clear q') | refine hN _ ?_ ?_ Wk.kk | with_reducible refine And.intro ?_ ?_ | with_reducible omega | exact ok_ints | exact cells_ints | exact no_mem | with_reducible exact plain_ints | (refine le_maxLen ?_; omega) | (refine za9 ⟨?_,?_⟩) | (simp only [go_sem,Qc,Qb,zb1,zb2,forall_eq]; done)))
 all_goals (first | omega | (exact retR_drawL rfl rfl rfl rfl rfl rfl (by omega) (by omega) (by omega) (by omega) ⟨_,rfl,hm _ (by omega) (by omega)⟩))
end Abs.Y

namespace Abs.Y
open Go Go.Proofs Abs
set_option maxRecDepth 100000
set_option maxHeartbeats 4000000

theorem l22Join_ok (o a b : ByteArray) (h1 : o.size<=1000) (h2 : a.size<=1000000) (h3 : b.size<=1000000) : Ctr Tryz.prog 47 [.str o,.str a,.str b] false (.d (.str (ByteArray.mk #[40]++a++o++b++ByteArray.mk #[41]))) []:=by
 have z1 : (ByteArray.mk #[40]).size=1:=rfl
 have z2 : (ByteArray.mk #[41]).size=1:=rfl
 refine Ctr.of (n:=14) (rs:=[.tmp 6]) Tryz.func47 rfl rfl Tryz.ntmps47 rfl rfl (by kernel_rfl) Tryz.checked.mixed ?_
 simp (disch:=first | omega | decide +kernel) only [go_sem,Qa,Qb,Qc,Qd,Qe,↓reduceIte,reduceCtorEq,Qf,Qg,Qh]
 (repeat' (first | ((first | (refine gsel_split (fun q' => ?_) (fun q' => ?_)<;>(have h':=q')<;>(try simp only [za1,za2,Ba,Bb,za3,ne_eq,za4,za5,za6,Ia,Ib,Ic,Ie,Da,Bc,Bh,Be,za7,za8] at h')<;>try (exfalso; omega)) | (have q':=trivial; first | refine hE _ _ ret_ne ?_ | refine hE _ _ exit_ne ?_))<;>(try simp (disch:=first | omega | decide +kernel) only [q',z1,z2,ByteArray.size_append,go_sem,Qa,Qb,Qc,Qd,Qe,↓reduceIte,reduceCtorEq,Qf,Qg,Qh])<;>clear q') | refine hN _ ?_ ?_ Wk.kk | with_reducible refine And.intro ?_ ?_ | with_reducible omega | exact ok_ints | exact cells_ints | exact no_mem | with_reducible exact plain_ints | (refine le_maxLen ?_; omega) | (refine za9 ⟨?_,?_⟩) | (simp only [go_sem,Qc,Qb,zb1,zb2,forall_eq]; done)))
 all_goals (first | omega | rfl)
theorem formula22_ok {code : List Int} (hc : CodeOK code) : ∀ (m : Nat) (n : Int),1<=n->n<=m->n<=8 ->
 Draws 61 [.d (.int .i64 n)] (16 * n.toNat - 8) (QT (4 * n.toNat - 3)) code:=by
 intro m
 induction m with
 | zero => exact fun n h1 h2 => absurd h2 (by omega)
 | succ m ih =>
   intro n hn1 hn2 hn8 at_ seed h1 h2 h3
   have c1:=one_ok hc 6 (by omega)
   have c2:=one_ok hc 4 (by omega)
   have c3:=ofL_ok hc [⟨#[97]⟩,⟨#[98]⟩,⟨#[99]⟩,⟨#[97]⟩,⟨#[98]⟩,⟨#[100]⟩,⟨#[48]⟩,⟨#[49]⟩,⟨#[102]⟩,⟨#[101]⟩,⟨#[99]⟩,⟨#[97]⟩] 1 (by decide) (by decide)
   have c4:=ofL_ok hc [⟨#[38]⟩,⟨#[124]⟩,⟨#[62]⟩] 1 (by decide) (by decide)
   have c5:=pick_ok hc (n - 1) (by omega)
   simp only [List.map_cons,List.map_nil] at c3 c4
   have z1 : (ByteArray.mk #[126]).size=1:=rfl
   have z2 : (ByteArray.mk #[40]).size=1:=rfl
   have z3 : (ByteArray.mk #[41]).size=1:=rfl
   refine CtrR.of (n:=39) (rs:=[.tmp 4]) Tryz.func61 rfl rfl Tryz.ntmps61 rfl rfl (by kernel_rfl) Tryz.checked.mixed ?_; intro u
   simp (disch:=first | omega | decide +kernel) only [curO,curB,D.bytes,go_sem,Qa,Qb,Qc,Qd,Qe,↓reduceIte,reduceCtorEq,Qf,Qg,Qh]
   (repeat' (first | ((first | (refine gsel_split (fun q' => ?_) (fun q' => ?_)<;>(have h':=q')<;>(try simp only [za1,za2,Ba,Bb,za3,ne_eq,za4,za5,za6,Ia,Ib,Ic,Ie,Da,Bc,Bh,Be,za7,za8] at h')<;>try (exfalso; omega)) | (have q':=trivial; first | (refine callX_draw _ (c1) ⟨.inl rfl,.inl rfl,trivial⟩ rfl (by simp [dstB]) (by omega) (by omega) (by omega) ?_; rintro _ ata sda hata1 hata2 hsda1 hsda2 ⟨xa,rfl,hxa⟩) | (refine callX_drawL _ _ (c3) ⟨.inl rfl,.inl rfl,trivial⟩ rfl rfl (by decide) (by simp [dstB]) (by omega) (by omega) (by omega) ?_; rintro _ at1 sd1 hat1 hat2 hsd1 hsd2 ⟨x1,rfl,hx1⟩) | (refine callX_draw _ (c2) ⟨.inl rfl,.inl rfl,trivial⟩ rfl (by simp [dstB]) (by omega) (by omega) (by omega) ?_; rintro _ atb sdb hatb1 hatb2 hsdb1 hsdb2 ⟨xb,rfl,hxb⟩) | (refine callX_draw _ (ih (n - 1) (by omega) (by omega) (by omega)) ⟨.inl rfl,.inl rfl,trivial⟩ rfl (by simp [dstB]) (by omega) (by omega) (by omega) ?_; rintro _ atc sdc hatc1 hatc2 hsdc1 hsdc2 ⟨xc,rfl,hxc⟩) | (refine callX_draw _ (c5) ⟨.inl rfl,.inl rfl,trivial⟩ rfl (by simp [dstB]) (by omega) (by omega) (by omega) ?_; rintro _ atd sdd hatd1 hatd2 hsdd1 hsdd2 ⟨xd,rfl,hxd⟩) | (refine callX_drawL _ _ (c4) ⟨.inl rfl,.inl rfl,trivial⟩ rfl rfl (by decide) (by simp [dstB]) (by omega) (by omega) (by omega) ?_; rintro _ at1 sd1 hat1 hat2 hsd1 hsd2 ⟨x1,rfl,hx1⟩) | (refine callX_draw _ (ih (1 + xd) (by omega) (by omega) (by omega)) ⟨.inl rfl,.inl rfl,trivial⟩ rfl (by simp [dstB]) (by omega) (by omega) (by omega) ?_; rintro _ ate sde hate1 hate2 hsde1 hsde2 ⟨xe,rfl,hxe⟩) | (refine callX_draw _ (ih (n - (1 + xd)) (by omega) (by omega) (by omega)) ⟨.inl rfl,.inl rfl,trivial⟩ rfl (by simp [dstB]) (by omega) (by omega) (by omega) ?_; rintro _ atf sdf hatf1 hatf2 hsdf1 hsdf2 ⟨xf,rfl,hxf⟩) | refine callX_new (l22Join_ok x1 xe xf (by omega) (by omega) (by omega)) rfl (by decide) ?_ | refine callY_new (l22Join_ok x1 xe xf (by omega) (by omega) (by omega)) rfl ?_ | refine hE _ _ ret_ne ?_ | refine hE _ _ exit_ne ?_))<;>(try simp (disch:=first | omega | decide +kernel) only [q',curO,curB,D.bytes,z1,ByteArray.size_append,go_sem,Qa,Qb,Qc,Qd,Qe,↓reduceIte,reduceCtorEq,Qf,Qg,Qh])<;>clear q') | refine hN _ ?_ ?_ Wk.kk | with_reducible refine And.intro ?_ ?_ | with_reducible omega | exact ok_ints | exact cells_ints | exact no_mem | with_reducible exact plain_ints | (refine le_maxLen ?_; omega) | (refine za9 ⟨?_,?_⟩) | (simp only [go_sem,Qc,Qb,zb1,zb2,forall_eq]; done)))
   all_goals (first | omega | (exact retR_draw rfl rfl rfl (by omega) (by omega) (by omega) (by omega) ⟨_,rfl,by (try simp only [ByteArray.size_append,z1,z2,z3]); omega⟩))
end Abs.Y
