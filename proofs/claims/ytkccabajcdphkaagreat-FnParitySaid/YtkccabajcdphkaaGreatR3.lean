/- What functions of this program compute, over plain data. No condition. -/
import Derived.Test.YtkccabajcdphkaaGreatK2
import Derived.Test.YtkccabajcdphkaaGreatW11
import Derived.Test.YtkccabajcdphkaaGreatAbsRow
import Derived.Test.YtkccabajcdphkaaGreatFacts
import Derived.Test.YtkccabajcdphkaaGreatK8
import Derived.Test.YtkccabajcdphkaaGreatAbsBox
import Derived.Test.YtkccabajcdphkaaGreatFF3
set_option linter.all false
open Nat renaming reduceEqDiff -> Qa, reduceLT -> Qb, reduceAdd -> Qc, reduceMul -> Qd, reduceSub -> Qe, reduceLeDiff -> Qf, reduceSubDiff -> Qg, reduceBEq -> Qh
open Bool renaming not_eq_true' -> Ba, not_eq_false' -> Bb, and_eq_true -> Bc, or_eq_true -> Bh, or_eq_false_iff -> Be
open Int renaming ofNat_lt -> Ia, ofNat_le -> Ib, not_lt -> Ic, not_le -> Ie
open Decidable renaming not_not -> Da
namespace Abs
open Go Go.RowKit Go.Proofs
def D.intV : D->Value
 | .int k n => .int k n
 | _ => Go.undef
end Abs
namespace Abs.Y
open Go Go.Proofs Abs Go.RowKit
set_option maxRecDepth 100000
def flE (es : List (Int × Int)) : List Int:=es.flatMap fun e => [e.1,e.2]
end Abs.Y

namespace Abs.Y
open Go Go.Proofs Abs
set_option maxRecDepth 100000

end Abs.Y

namespace Abs.Y
open Go Go.Proofs Abs
set_option maxRecDepth 100000

theorem okE1 (e : Int × Int) : D.ok 2 (D.agg [D.int .i64 e.1,D.int .i64 e.2]):=okE (l:=[e]) (.head _)
def mrB (g : Chg) (k : Int) : Bool:=edB g k && xc7 (zw4 g k.toNat)
def mrG (g : Chg) (k : Int) : Chg:=if mrB g k then zw4 g k.toNat else zC
end Abs.Y

namespace Abs.Y
open Go Go.Proofs Abs
set_option maxRecDepth 100000

def mgC (a b : Nat) (ch : List Int) (i : Nat) : List Int:=((List.range i).filter fun w => decide (w ≠ b)).map fun w => if w=a then (ch.getD a 0 + ch.getD b 0) % 2 else ch.getD w 0
end Abs.Y

namespace Abs.Y
open Go Go.Proofs Abs
set_option maxRecDepth 100000

theorem yg3 (a b : Int) : Ctr Tryz.prog 101 [.int .i64 a,.int .i64 b] false (.d (.int .i64 (min a b))) []:=by
 refine Ctr.of (n:=10) (rs:=[.tmp 4]) Tryz.func101 rfl rfl Tryz.ntmps101 rfl rfl (by kernel_rfl) Tryz.checked.mixed ?_
 simp (disch:=first | omega | decide +kernel) only [go_sem,Qa,Qb,Qc,Qd,Qe,↓reduceIte,reduceCtorEq,Qf,Qg,Qh]
 (repeat' (first | ((first | (refine xa0 ?_ ?_<;>intro q'<;>(have h':=q')<;>(try simp only [zz] at h')<;>try (exfalso; omega)) | (have q':=trivial; first | refine hE _ _ xa5 ?_ | refine hE _ _ xa2 ?_))<;>(try simp (disch:=first | omega | decide +kernel) only [q',go_sem,Qa,Qb,Qc,Qd,Qe,↓reduceIte,reduceCtorEq,Qf,Qg,Qh])<;>clear q') | (with_reducible first | refine And.intro ?_ ?_ | omega) | exact xa6 | (refine xa1 ?_; omega) | (refine za9 ⟨?_,?_⟩) | (simp only [go_sem,Qc,Qb,zb1,zb2,forall_eq]; done)))
 all_goals (first | (rw [Int.min_eq_left (by omega)]) | (rw [Int.min_eq_right (by omega)]))
theorem zd5 (a b : Int) : Ctr Tryz.prog 102 [.int .i64 a,.int .i64 b] false (.d (.int .i64 (max a b))) []:=by
 refine Ctr.of (n:=10) (rs:=[.tmp 4]) Tryz.func102 rfl rfl Tryz.ntmps102 rfl rfl (by kernel_rfl) Tryz.checked.mixed ?_
 simp (disch:=first | omega | decide +kernel) only [go_sem,Qa,Qb,Qc,Qd,Qe,↓reduceIte,reduceCtorEq,Qf,Qg,Qh]
 (repeat' (first | ((first | (refine xa0 ?_ ?_<;>intro q'<;>(have h':=q')<;>(try simp only [zz] at h')<;>try (exfalso; omega)) | (have q':=trivial; first | refine hE _ _ xa5 ?_ | refine hE _ _ xa2 ?_))<;>(try simp (disch:=first | omega | decide +kernel) only [q',go_sem,Qa,Qb,Qc,Qd,Qe,↓reduceIte,reduceCtorEq,Qf,Qg,Qh])<;>clear q') | (with_reducible first | refine And.intro ?_ ?_ | omega) | exact xa6 | (refine xa1 ?_; omega) | (refine za9 ⟨?_,?_⟩) | (simp only [go_sem,Qc,Qb,zb1,zb2,forall_eq]; done)))
 all_goals (first | (rw [Int.max_eq_left (by omega)]) | (rw [Int.max_eq_right (by omega)]))
def enS (p q : Int) : Nat->List Int
 | 0 => [0,0]
 | 1 => [p,0]
 | _ => [p,q]
end Abs.Y

namespace Abs
open Go Go.Proofs
theorem zg7 {P : Program} {t : Nat} {st : St} {x : D} {u : Nat->Value} {ob : AO} (h : lk t st.s=some (.d x)) (ho : lk 0 st.o=some ob) (hk : lk 1000000000 st.s=some (.hdr 0 (u 0))) (hr : ob.ren (fun j => j)=ob) :
 retM P [.tmp t] u [0] true (.d x) [(0,ob)] .ret st:=by
 simp only [retM,resV,h]
 exact ⟨trivial,⟨fun j => j,rfl,by simpa [hr] using ho,by simp,⟨rfl,hk,trivial⟩⟩,.inl trivial⟩
theorem CtrR.mono {P f avs oi keep sh} {R R' : AV->List (Nat × AO)->Prop} (h : CtrR P f avs oi keep sh R) (hR : ∀ r o,R r o->R' r o) : CtrR P f avs oi keep sh R' :=
 ⟨h.1,fun S β φ w vs h1 h2 h3 h4 => (h.2 S β φ w vs h1 h2 h3 h4).mono fun _ _ ⟨v,r,o,e,hr,h5,h6⟩ => ⟨v,r,o,e,hR r o hr,h5,h6⟩⟩
end Abs
namespace Abs.Y
open Go Go.Proofs Abs
set_option maxRecDepth 100000

@[reducible] def D.bytes (c : List Int) : D:=.slice (c.map (.int .u8))
@[reducible] def curB (code : List Int) (at_ : Nat) (seed : Int) : AO:=.box 89 [.d (D.bytes code),.d (.int .i64 (at_ : Nat)),.d (.int .u64 seed)]
@[reducible] def curO (code : List Int) (at_ : Nat) (seed : Int) : List (Nat × AO):=[(0,curB code at_ seed)]
structure CodeOK (code : List Int) : Prop where
 len : code.length<=1048576
 byte : ∀ i,0<=code.getD i 0∧code.getD i 0 < 256
structure CurOK (at_ : Nat) (seed : Int) : Prop where
 at_ : at_<=1099511627776
 seed : 0<=seed∧seed < 18446744073709551616
theorem el_u8 {xs : List Int} {i : Nat} (h : i < xs.length) : el (xs.map (.int .u8)) i=.int .u8 (xs.getD i 0):=xv3 (f:=D.int .u8) 0 h
def zp7 (seed b : Int) : Int:=IntKind.u64.wrap (IntKind.u64.wrap (IntKind.u64.wrap (seed * 6364136223846793005) + IntKind.u64.wrap b) + 337411)
theorem wrap_u64 (n : Int) : 0<=IntKind.u64.wrap n∧IntKind.u64.wrap n < 18446744073709551616:=by
 simp only [IntKind.wrap,IntKind.signed,IntKind.bits]
 simp; omega
theorem yk1 (s b : Int) : 0<=zp7 s b∧zp7 s b < 18446744073709551616:=wrap_u64 _
theorem bitV_and_u64 (x : Int) : 0<=bitV .and .u64 x 255∧bitV .and .u64 x 255<=255:=by
 have h : (BitVec.ofInt 64 x &&& BitVec.ofInt 64 255).toNat<=255:=by
  rw [BitVec.toNat_and]; exact Nat.and_le_right
 have e : bitV .and .u64 x 255=IntKind.wrap .u64 ((BitVec.ofInt 64 x &&& BitVec.ofInt 64 255).toNat : Nat):=rfl
 generalize (BitVec.ofInt 64 x &&& BitVec.ofInt 64 255).toNat=n at *
 rw [e]
 simp only [IntKind.wrap,IntKind.signed,IntKind.bits]
 simp; omega
def zv0 (s : Int) : Int:=IntKind.i64.wrap (bitV .and .u64 (s.fdiv (2 ^ min (Int.toNat 40) 64)) 255)
theorem zn4 (s : Int) : 0<=zv0 s∧zv0 s<=255:=by
 unfold zv0
 have h:=bitV_and_u64 (s.fdiv (2 ^ min (Int.toNat 40) 64))
 rw [xv7 (by omega)]
 omega
theorem next_ok {code : List Int} (hc : CodeOK code) {at_ : Nat} {seed : Int} (h : CurOK at_ seed) : ∃ x seed',0<=x∧x<=255∧0<=seed'∧seed' < 18446744073709551616 ∧
 CtrM Tryz.prog 129 [.p 0 0] (curO code at_ seed) [0] true (.d (.int .i64 x)) (curO code (at_ + 1) seed'):=by
 have hl:=hc.len
 have hb:=hc.byte at_
 obtain ⟨ha,hs⟩:=h
 by_cases hlt : at_ < code.length
 . have hei:=el_u8 hlt
   have he2 : (at_ : Int) + 1=((at_ + 1 : Nat) : Int):=by omega
   generalize code.getD at_ 0=b at *
   refine ⟨b,zp7 seed b,hb.1,by omega,(yk1 _ _).1,(yk1 _ _).2,?_⟩
   refine CtrM.of (n:=62) (rs:=[.tmp 2]) Tryz.func129 rfl rfl Tryz.ntmps129 rfl rfl (by kernel_rfl) Tryz.checked.mixed ?_; intro u
   simp (disch:=first | omega | decide +kernel) only [curO,curB,D.bytes,hei,setL,he2,go_sem,Qa,Qb,Qc,Qd,Qe,↓reduceIte,reduceCtorEq,Qf,Qg,Qh]
   (repeat' (first | ((first | (refine xa0 ?_ ?_<;>intro q'<;>(have h':=q')<;>(try simp only [zz] at h')<;>try (exfalso; omega)) | (have q':=trivial; first | refine hE _ _ xa5 ?_ | refine hE _ _ xa2 ?_))<;>(try simp (disch:=first | omega | decide +kernel) only [q',D.bytes,hei,setL,he2,Int.toNat_natCast,go_sem,Qa,Qb,Qc,Qd,Qe,↓reduceIte,reduceCtorEq,Qf,Qg,Qh])<;>clear q') | refine hN _ ?_ ?_ Wk.kk | (with_reducible first | refine And.intro ?_ ?_ | omega) | exact xb8 | exact xa8 | exact xa6 | with_reducible exact xa7 | (refine xa1 ?_; omega) | (refine za9 ⟨?_,?_⟩) | (simp only [go_sem,Qc,Qb,zb1,zb2,forall_eq]; done)))
   all_goals (first | omega | exact zg7 rfl rfl rfl rfl)
 . have he2 : (at_ : Int) + 1=((at_ + 1 : Nat) : Int):=by omega
   refine ⟨zv0 (zp7 seed 0),zp7 seed 0,(zn4 _).1,(zn4 _).2,(yk1 _ _).1,(yk1 _ _).2,?_⟩
   refine CtrM.of (n:=62) (rs:=[.tmp 2]) Tryz.func129 rfl rfl Tryz.ntmps129 rfl rfl (by kernel_rfl) Tryz.checked.mixed ?_; intro u
   simp (disch:=first | omega | decide +kernel) only [curO,curB,D.bytes,setL,he2,go_sem,Qa,Qb,Qc,Qd,Qe,↓reduceIte,reduceCtorEq,Qf,Qg,Qh]
   (repeat' (first | ((first | (refine xa0 ?_ ?_<;>intro q'<;>(have h':=q')<;>(try simp only [zz] at h')<;>try (exfalso; omega)) | (have q':=trivial; first | refine hE _ _ xa5 ?_ | refine hE _ _ xa2 ?_))<;>(try simp (disch:=first | omega | decide +kernel) only [q',D.bytes,setL,he2,Int.toNat_natCast,go_sem,Qa,Qb,Qc,Qd,Qe,↓reduceIte,reduceCtorEq,Qf,Qg,Qh])<;>clear q') | (with_reducible first | refine And.intro ?_ ?_ | omega) | exact xa6 | (refine xa1 ?_; omega) | (refine za9 ⟨?_,?_⟩) | (simp only [go_sem,Qc,Qb,zb1,zb2,forall_eq]; done)))
   all_goals (first | omega | exact zg7 rfl rfl rfl rfl)
def zg2 (f : FuncId) (xs : List AV) (k : Nat) (Q : AV->Prop) (code : List Int) : Prop:=∀ at_ seed,at_ + k<=1099511627776->0<=seed->seed < 18446744073709551616 ->
 CtrR Tryz.prog f (.p 0 0 :: xs) (curO code at_ seed) [0] true fun r oo => ∃ at' seed',at_<=at'∧at'<=at_ + k∧0<=seed'∧seed' < 18446744073709551616∧oo=curO code at' seed'∧Q r
theorem xc5 {N f cavs st dst K} (J : Nat) {xs k Q code at_ seed} (hs : zg2 f xs k Q code) (hp : ya7 Tryz.prog (delL [J] st.o) (nth [J]) true cavs (.p 0 0 :: xs)) (ho : lkn J st.o=some ((curB code at_ seed).ren (nth [J])))
 (hd : dstB N dst) (h1 : at_ + k<=1099511627776) (h2 : 0<=seed) (h3 : seed < 18446744073709551616)
 (hK : ∀ r at' seed',at_<=at'->at'<=at_ + k->0<=seed'->seed' < 18446744073709551616->Q r->K (impM st dst (nth [J]) [] r (curO code at' seed'))) : yq6 Tryz.prog N f cavs dst K st :=
 xp0 [J] [J] [] (hs at_ seed h1 h2 h3) hp ⟨ho,trivial⟩ (by simp [xs9,xh7,nth]) hd fun r oo ⟨at',seed',a1,a2,a3,a4,e,hQ⟩ => by
  subst e; exact ⟨by simp [xj9,xh7,nth],hK r at' seed' a1 a2 a3 a4 hQ⟩
theorem yc5 {t : Nat} {u : Nat->Value} {st : St} {code : List Int} {at_ k : Nat} {Q : AV->Prop} {at' : Nat} {seed' : Int} {x : D} (h : lk t st.s=some (.d x)) (ho : lk 0 st.o=some (curB code at' seed')) (hk : lk 1000000000 st.s=some (.hdr 0 (u 0)))
 (h1 : at_<=at') (h2 : at'<=at_ + k) (h3 : 0<=seed') (h4 : seed' < 18446744073709551616) (hQ : Q (.d x)) :
 retR Tryz.prog [.tmp t] u [0] true (fun r oo => ∃ at' seed',at_<=at'∧at'<=at_ + k∧0<=seed'∧seed' < 18446744073709551616∧oo=curO code at' seed'∧Q r) .ret st :=
 ⟨_,_,⟨at',seed',h1,h2,h3,h4,rfl,hQ⟩,zg7 h ho hk rfl⟩
@[reducible] def QI (Q : Int->Prop) : AV->Prop:=fun r => ∃ x,r=.d (.int .i64 x)∧Q x
theorem next_draws {code : List Int} (hc : CodeOK code) : zg2 129 [] 1 (QI fun x => 0<=x∧x<=255) code:=fun at_ seed h1 h2 h3 => by
 obtain ⟨x,s,a1,a2,a3,a4,h⟩:=next_ok hc (at_:=at_) (seed:=seed) ⟨by omega,h2,h3⟩
 exact h.rel.mono fun r o ⟨e1,e2⟩ => ⟨at_ + 1,s,by omega,by omega,a3,a4,e2,x,e1,a1,a2⟩
end Abs.Y

namespace Abs.Y
open Go Go.Proofs Abs
set_option maxRecDepth 100000

theorem r_bytes {x : D} (h : isSl isU8 x) : ∃ code : List Int,x=D.bytes code∧∀ i,0<=code.getD i 0∧code.getD i 0 < 256:=by
 obtain ⟨es,rfl,_,hes⟩:=h
 have key : ∀ es : List D,(∀ e ∈ es,isU8 e)->∃ code : List Int,es=code.map (D.int .u8)∧∀ b ∈ code,0<=b∧b < 256:=by
  intro es
  induction es with
  | nil => exact fun _ => ⟨[],rfl,fun _ h => by cases h⟩
  | cons e r ih =>
    intro h
    obtain ⟨n,rfl,h1,h2⟩:=h e (by simp)
    obtain ⟨c,rfl,hc⟩:=ih fun x hx => h x (by simp [hx])
    exact ⟨n :: c,rfl,fun b hb => by
     rcases List.mem_cons.1 hb with rfl | hb
     . omega
     . exact hc b hb⟩
 obtain ⟨code,rfl,hc⟩:=key es hes
 refine ⟨code,rfl,fun i => ?_⟩
 by_cases hi : i < code.length
 . exact hc _ (xc0 hi)
 . simp [List.getD_eq_getElem?_getD,List.getElem?_eq_none (show code.length<=i by omega)]
end Abs.Y

namespace Abs
open Go Go.Proofs
end Abs
namespace Abs.Y
open Go Go.Proofs Abs
set_option maxRecDepth 100000

theorem rBig_ok (code : List Int) : Ctr Tryz.prog 5 [D.bytes code] false (.d (.bool (decide (65536 < code.length)))) []:=by
 refine Ctr.of (n:=6) (rs:=[.tmp 2]) Tryz.func5 rfl rfl Tryz.ntmps5 rfl rfl (by kernel_rfl) Tryz.checked.mixed ?_
 simp (disch:=first | omega | decide +kernel) only [D.bytes,go_sem,Qa,Qb,Qc,Qd,Qe,↓reduceIte,reduceCtorEq,Qf,Qg,Qh]
 (repeat' (first | ((first | (refine xa0 ?_ ?_<;>intro q'<;>(have h':=q')<;>(try simp only [zz] at h')<;>try (exfalso; omega)) | (have q':=trivial; first | refine hE _ _ xa5 ?_ | refine hE _ _ xa2 ?_))<;>(try simp (disch:=first | omega | decide +kernel) only [q',D.bytes,go_sem,Qa,Qb,Qc,Qd,Qe,↓reduceIte,reduceCtorEq,Qf,Qg,Qh])<;>clear q') | (with_reducible first | refine And.intro ?_ ?_ | omega) | (refine xa1 ?_; omega)))
 congr 1
 exact decide_eq_decide.2 (by omega)
theorem yf6 (a : List Int) (hl : a.length<=4294967296) : Ctr Tryz.prog 13 [.ints a,.ints a] false (.d (.bool true)) []:=by
 refine Ctr.of (n:=26) (rs:=[.tmp 4]) Tryz.func13 rfl rfl Tryz.ntmps13 rfl rfl (by kernel_rfl) Tryz.checked.mixed ?_
 simp (disch:=first | omega | decide +kernel) only [D.ints,go_sem,Qa,Qb,Qc,Qd,Qe,↓reduceIte,reduceCtorEq,Qf,Qg,Qh]
 (repeat' (first | ((first | (refine xa0 ?_ ?_<;>intro q'<;>(have h':=q')<;>(try simp only [zz] at h')<;>try (exfalso; omega)) | (have q':=trivial; first | refine hE _ _ xa5 ?_ | refine hE _ _ xa2 ?_))<;>(try simp (disch:=first | omega | decide +kernel) only [q',D.ints,go_sem,Qa,Qb,Qc,Qd,Qe,↓reduceIte,reduceCtorEq,Qf,Qg,Qh])<;>clear q') | refine hN _ ?_ ?_ Wk.kk | (with_reducible first | refine And.intro ?_ ?_ | omega) | exact xb8 | exact xa8 | exact xa6 | with_reducible exact xa7 | (refine xa1 ?_; omega) | (refine za9 ⟨?_,?_⟩) | (simp only [go_sem,Qc,Qb,zb1,zb2,forall_eq]; done)))
 all_goals (try (exact absurd trivial h'))
 refine Ok.loopC [25,24,23,22,21,20,19,18,17,16,15,14,13,12,11,10,9,8,7,6,5,4,3,2] (fun i => [(5,.d (.int .i64 (i : Nat)))]) a.length (fun _ => True) trivial (Wk.kk) ?_
 intro R i hN hE hi _
 by_cases hlt : i < a.length
 . have hei:=xl3 (xs:=a) hlt
   simp (disch:=first | omega | decide +kernel) only [D.ints,hei,go_sem,Qa,Qb,Qc,Qd,Qe,↓reduceIte,reduceCtorEq,Qf,Qg,Qh]
   (repeat' (first | ((first | (refine xa0 ?_ ?_<;>intro q'<;>(have h':=q')<;>(try simp only [zz] at h')<;>try (exfalso; omega)) | (have q':=trivial; first | refine hE _ _ xa5 ?_ | refine hE _ _ xa2 ?_))<;>(try simp (disch:=first | omega | decide +kernel) only [q',D.ints,hei,go_sem,Qa,Qb,Qc,Qd,Qe,↓reduceIte,reduceCtorEq,Qf,Qg,Qh])<;>clear q') | refine hN _ ?_ ?_ Wk.kk | (with_reducible first | refine And.intro ?_ ?_ | omega) | exact xb8 | exact xa8 | exact xa6 | with_reducible exact xa7 | (refine xa1 ?_; omega) | (refine za9 ⟨?_,?_⟩) | (simp only [go_sem,Qc,Qb,zb1,zb2,forall_eq]; done)))
   all_goals (try (exact absurd trivial h'))
 . simp (disch:=first | omega | decide +kernel) only [D.ints,go_sem,Qa,Qb,Qc,Qd,Qe,↓reduceIte,reduceCtorEq,Qf,Qg,Qh]
   (repeat' (first | ((first | (refine xa0 ?_ ?_<;>intro q'<;>(have h':=q')<;>(try simp only [zz] at h')<;>try (exfalso; omega)) | (have q':=trivial; first | refine hE _ _ xa5 ?_ | refine hE _ _ xa2 ?_))<;>(try simp (disch:=first | omega | decide +kernel) only [q',D.ints,go_sem,Qa,Qb,Qc,Qd,Qe,↓reduceIte,reduceCtorEq,Qf,Qg,Qh])<;>clear q') | refine hN _ ?_ ?_ Wk.kk | (with_reducible first | refine And.intro ?_ ?_ | omega) | exact xb8 | exact xa8 | exact xa6 | with_reducible exact xa7 | (refine xa1 ?_; omega) | (refine za9 ⟨?_,?_⟩) | (simp only [go_sem,Qc,Qb,zb1,zb2,forall_eq]; done)))
theorem rTable_self (a : List (List Int)) (hl : a.length<=4294967296) (hx : ∀ x ∈ a,x.length<=4294967296) : Ctr Tryz.prog 43 [.slice (a.map D.ints),.slice (a.map D.ints)] false (.d (.bool true)) []:=by
 refine Ctr.of (n:=27) (rs:=[.tmp 4]) Tryz.func43 rfl rfl Tryz.ntmps43 rfl rfl (by kernel_rfl) Tryz.checked.mixed ?_
 simp (disch:=first | omega | decide +kernel) only [List.length_map,go_sem,Qa,Qb,Qc,Qd,Qe,↓reduceIte,reduceCtorEq,Qf,Qg,Qh]
 (repeat' (first | ((first | (refine xa0 ?_ ?_<;>intro q'<;>(have h':=q')<;>(try simp only [zz] at h')<;>try (exfalso; omega)) | (have q':=trivial; first | refine hE _ _ xa5 ?_ | refine hE _ _ xa2 ?_))<;>(try simp (disch:=first | omega | decide +kernel) only [q',List.length_map,go_sem,Qa,Qb,Qc,Qd,Qe,↓reduceIte,reduceCtorEq,Qf,Qg,Qh])<;>clear q') | refine hN _ ?_ ?_ Wk.kk | (with_reducible first | refine And.intro ?_ ?_ | omega) | exact xb8 | exact xa8 | exact xa6 | with_reducible exact xa7 | (refine xa1 ?_; omega) | (refine za9 ⟨?_,?_⟩) | (simp only [go_sem,Qc,Qb,zb1,zb2,forall_eq]; done)))
 all_goals (try (exact absurd trivial h'))
 refine Ok.loopC [26,25,24,23,22,21,20,19,18,17,16,15,14,13,12,11,10,9,8,7,6,5,4,3,2] (fun i => [(5,.d (.int .i64 (i : Nat)))]) a.length (fun _ => True) trivial (Wk.kk) ?_
 intro R i hN hE hi _
 by_cases hlt : i < a.length
 . have hei:=yk5 (xs:=a) hlt
   have c1:=yf6 (a.getD i []) (hx _ (xc0 hlt))
   simp (disch:=first | omega | decide +kernel) only [hei,List.length_map,go_sem,Qa,Qb,Qc,Qd,Qe,↓reduceIte,reduceCtorEq,Qf,Qg,Qh]
   (repeat' (first | ((first | (refine xa0 ?_ ?_<;>intro q'<;>(have h':=q')<;>(try simp only [zz] at h')<;>try (exfalso; omega)) | (have q':=trivial; first | refine xa3 (c1) rfl (by decide) ?_ | refine xa4 (c1) rfl ?_ | refine hE _ _ xa5 ?_ | refine hE _ _ xa2 ?_))<;>(try simp (disch:=first | omega | decide +kernel) only [q',hei,List.length_map,go_sem,Qa,Qb,Qc,Qd,Qe,↓reduceIte,reduceCtorEq,Qf,Qg,Qh])<;>clear q') | refine hN _ ?_ ?_ Wk.kk | (with_reducible first | refine And.intro ?_ ?_ | omega) | exact xb8 | exact xa8 | exact xa6 | with_reducible exact xa7 | (refine xa1 ?_; omega) | (refine za9 ⟨?_,?_⟩) | (simp only [go_sem,Qc,Qb,zb1,zb2,forall_eq]; done)))
   all_goals (try (exact absurd trivial h'))
 . simp (disch:=first | omega | decide +kernel) only [List.length_map,go_sem,Qa,Qb,Qc,Qd,Qe,↓reduceIte,reduceCtorEq,Qf,Qg,Qh]
   (repeat' (first | ((first | (refine xa0 ?_ ?_<;>intro q'<;>(have h':=q')<;>(try simp only [zz] at h')<;>try (exfalso; omega)) | (have q':=trivial; first | refine hE _ _ xa5 ?_ | refine hE _ _ xa2 ?_))<;>(try simp (disch:=first | omega | decide +kernel) only [q',List.length_map,go_sem,Qa,Qb,Qc,Qd,Qe,↓reduceIte,reduceCtorEq,Qf,Qg,Qh])<;>clear q') | refine hN _ ?_ ?_ Wk.kk | (with_reducible first | refine And.intro ?_ ?_ | omega) | exact xb8 | exact xa8 | exact xa6 | with_reducible exact xa7 | (refine xa1 ?_; omega) | (refine za9 ⟨?_,?_⟩) | (simp only [go_sem,Qc,Qb,zb1,zb2,forall_eq]; done)))
theorem rCnf_self (u : Int) (a : List (List Int)) (hl : a.length<=4294967296) (hx : ∀ x ∈ a,x.length<=4294967296) :
 Ctr Tryz.prog 10 [.agg [.int .i64 u,.slice (a.map D.ints)],.agg [.int .i64 u,.slice (a.map D.ints)]] false (.d (.bool true)) []:=by
 have c1:=rTable_self a hl hx
 refine Ctr.of (n:=17) (rs:=[.tmp 4]) Tryz.func10 rfl rfl Tryz.ntmps10 rfl rfl (by kernel_rfl) Tryz.checked.mixed ?_
 simp (disch:=first | omega | decide +kernel) only [go_sem,Qa,Qb,Qc,Qd,Qe,↓reduceIte,reduceCtorEq,Qf,Qg,Qh]
 (repeat' (first | ((first | (refine xa0 ?_ ?_<;>intro q'<;>(have h':=q')<;>(try simp only [zz] at h')<;>try (exfalso; omega)) | (have q':=trivial; first | refine xa3 (c1) rfl (by decide) ?_ | refine xa4 (c1) rfl ?_ | refine hE _ _ xa5 ?_ | refine hE _ _ xa2 ?_))<;>(try simp (disch:=first | omega | decide +kernel) only [q',go_sem,Qa,Qb,Qc,Qd,Qe,↓reduceIte,reduceCtorEq,Qf,Qg,Qh])<;>clear q') | (with_reducible first | refine And.intro ?_ ?_ | omega) | (refine xa1 ?_; omega)))
 all_goals (first | exact absurd trivial h')
end Abs.Y

namespace Abs.Y
open Go Go.Proofs Abs
set_option maxRecDepth 100000
set_option maxHeartbeats 1000000

@[reducible] def QB : AV->Prop:=fun r => ∃ b : Bool,r=.d (.bool b)∧True
theorem pick_fin {n y : Int} (h : 1 < n) (h0 : 0<=y) (h1 : y<=65535) : (n<=1->y % n=0)∧0<=y % n∧(1 < n->y % n < n)∧y % n<=65535:=by
 have b1:=Int.emod_nonneg y (b:=n) (by omega)
 have b2:=Int.emod_lt_of_pos y (b:=n) (by omega)
 have b3:=Int.mul_ediv_add_emod y n
 have b4:=Int.mul_nonneg (a:=n) (b:=y / n) (by omega) (Int.ediv_nonneg h0 (by omega))
 generalize y % n=m at *
 generalize n * (y / n)=z at *
 omega
theorem xm5 {code : List Int} (hc : CodeOK code) (n : Int) (hn : n<=9223372036854775807∧-9223372036854775808<=n) :
 zg2 97 [.d (.int .i64 n)] 2 (QI fun x => (n<=1->x=0)∧0<=x∧(1 < n->x < n)∧x<=65535) code:=fun at_ seed h1 h2 h3 => by
 have c1:=next_draws hc
 have e1 : ∀ x : Int,0<=x->x.tmod n=x % n:=fun x hx => Int.tmod_eq_emod_of_nonneg hx
 refine CtrR.of (n:=20) (rs:=[.tmp 4]) Tryz.func97 rfl rfl Tryz.ntmps97 rfl rfl (by kernel_rfl) Tryz.checked.mixed ?_; intro u
 simp (disch:=first | omega | decide +kernel) only [curO,curB,D.bytes,go_sem,Qa,Qb,Qc,Qd,Qe,↓reduceIte,reduceCtorEq,Qf,Qg,Qh]
 (repeat' (first | ((first | (refine xa0 ?_ ?_<;>intro q'<;>(have h':=q')<;>(try simp only [zz] at h')<;>try (exfalso; omega)) | (have q':=trivial; first | (refine xc5 _ (c1) ⟨.inl rfl,trivial⟩ rfl (by simp [dstB]) (by omega) (by omega) (by omega) ?_; rintro _ at1 sd1 hat11 hat12 hsd11 hsd12 ⟨x1,rfl,hx1⟩) | refine hE _ _ xa5 ?_ | refine hE _ _ xa2 ?_))<;>(try simp (disch:=first | omega | decide +kernel) only [q',curO,curB,D.bytes,e1,go_sem,Qa,Qb,Qc,Qd,Qe,↓reduceIte,reduceCtorEq,Qf,Qg,Qh])<;>clear q') | (with_reducible first | refine And.intro ?_ ?_ | omega) | (refine xa1 ?_; omega)))
 all_goals (first | omega | (refine yc5 rfl rfl rfl (by omega) (by omega) (by omega) (by omega) ⟨_,rfl,?_⟩))
 all_goals (first | exact pick_fin (by omega) (by omega) (by omega) | (show _∧_; refine ⟨fun _ => rfl,?_,?_,?_⟩<;>omega))
theorem zq8 {code : List Int} (hc : CodeOK code) (n : Int) (hn : n<=9223372036854775807∧-9223372036854775808<=n) :
 zg2 73 [.d (.int .i64 n)] 2 QB code:=fun at_ seed h1 h2 h3 => by
 have c1:=xm5 hc n hn
 refine CtrR.of (n:=9) (rs:=[.tmp 4]) Tryz.func73 rfl rfl Tryz.ntmps73 rfl rfl (by kernel_rfl) Tryz.checked.mixed ?_; intro u
 simp (disch:=first | omega | decide +kernel) only [curO,curB,D.bytes,go_sem,Qa,Qb,Qc,Qd,Qe,↓reduceIte,reduceCtorEq,Qf,Qg,Qh]
 (repeat' (first | ((first | (refine xa0 ?_ ?_<;>intro q'<;>(have h':=q')<;>(try simp only [zz] at h')<;>try (exfalso; omega)) | (have q':=trivial; first | (refine xc5 _ (c1) ⟨.inl rfl,.inl rfl,trivial⟩ rfl (by simp [dstB]) (by omega) (by omega) (by omega) ?_; rintro _ at1 sd1 hat11 hat12 hsd11 hsd12 ⟨x1,rfl,hx1⟩) | refine hE _ _ xa5 ?_ | refine hE _ _ xa2 ?_))<;>(try simp (disch:=first | omega | decide +kernel) only [q',curO,curB,D.bytes,go_sem,Qa,Qb,Qc,Qd,Qe,↓reduceIte,reduceCtorEq,Qf,Qg,Qh])<;>clear q') | (with_reducible first | refine And.intro ?_ ?_ | omega) | (refine xa1 ?_; omega)))
 all_goals (first | omega | (exact yc5 rfl rfl rfl (by omega) (by omega) (by omega) (by omega) ⟨_,rfl,trivial⟩))
theorem among_ok {code : List Int} (hc : CodeOK code) (l : List Int) (hl : 1<=l.length∧l.length<=60000) :
 zg2 100 [.d (D.ints l)] 2 (QI fun x => x ∈ l) code:=fun at_ seed h1 h2 h3 => by
 have c1:=xm5 hc (l.length : Nat) (by omega)
 have hei : ∀ x : Int,0<=x->x < l.length->el (l.map (D.int .i64)) x.toNat=.int .i64 (l.getD x.toNat 0):=fun x hx hl => xl3 (by omega)
 have hm : ∀ x : Int,0<=x->x < l.length->l.getD x.toNat 0 ∈ l:=fun x hx hl => by
  have : x.toNat < l.length:=by omega
  simp [List.getD_eq_getElem?_getD,this]
 refine CtrR.of (n:=12) (rs:=[.tmp 4]) Tryz.func100 rfl rfl Tryz.ntmps100 rfl rfl (by kernel_rfl) Tryz.checked.mixed ?_; intro u
 simp (disch:=first | omega | decide +kernel) only [curO,curB,D.bytes,D.ints,go_sem,Qa,Qb,Qc,Qd,Qe,↓reduceIte,reduceCtorEq,Qf,Qg,Qh]
 (repeat' (first | ((first | (refine xa0 ?_ ?_<;>intro q'<;>(have h':=q')<;>(try simp only [zz] at h')<;>try (exfalso; omega)) | (have q':=trivial; first | (refine xc5 _ (c1) ⟨.inl rfl,.inl rfl,trivial⟩ rfl (by simp [dstB]) (by omega) (by omega) (by omega) ?_; rintro _ at1 sd1 hat11 hat12 hsd11 hsd12 ⟨x1,rfl,hx1⟩) | refine hE _ _ xa5 ?_ | refine hE _ _ xa2 ?_))<;>(try simp (disch:=first | omega | decide +kernel) only [q',curO,curB,D.bytes,D.ints,hei,go_sem,Qa,Qb,Qc,Qd,Qe,↓reduceIte,reduceCtorEq,Qf,Qg,Qh])<;>clear q') | (with_reducible first | refine And.intro ?_ ?_ | omega) | (refine xa1 ?_; omega)))
 all_goals (first | omega | (refine yc5 rfl rfl rfl (by omega) (by omega) (by omega) (by omega) ⟨_,rfl,?_⟩))
 all_goals (first | exact hm _ (by omega) (by omega))
end Abs.Y

namespace Abs.Y
open Go Go.Proofs Abs
set_option maxRecDepth 100000
set_option maxHeartbeats 1000000

def zu5 (f : FuncId) (xs : List AV) (k : Nat) (o : AO) (Q : AV->Prop) (code : List Int) : Prop:=∀ at_ seed,at_ + k<=1099511627776->0<=seed->seed < 18446744073709551616 ->
 CtrR Tryz.prog f (.p 0 0 :: xs) [(0,curB code at_ seed),(1,o)] [0,1] true fun r oo => ∃ at' seed',at_<=at'∧at'<=at_ + k∧0<=seed'∧seed' < 18446744073709551616∧oo=[(0,curB code at' seed'),(1,o)]∧Q r
theorem yb3 {N f cavs st dst K} (J L : Nat) {xs k o Q code at_ seed} (hs : zu5 f xs k o Q code) (hp : ya7 Tryz.prog (delL [J,L] st.o) (nth [J,L]) true cavs (.p 0 0 :: xs)) (ho : lkn J st.o=some ((curB code at_ seed).ren (nth [J,L])))
 (hl : lkn L st.o=some (o.ren (nth [J,L]))) (hJL : J ≠ L) (hd : dstB N dst) (h1 : at_ + k<=1099511627776) (h2 : 0<=seed) (h3 : seed < 18446744073709551616)
 (hK : ∀ r at' seed',at_<=at'->at'<=at_ + k->0<=seed'->seed' < 18446744073709551616->Q r->K (impM st dst (nth [J,L]) [] r [(0,curB code at' seed'),(1,o)])) : yq6 Tryz.prog N f cavs dst K st :=
 xp0 [J,L] [J,L] [] (hs at_ seed h1 h2 h3) hp ⟨ho,hl,trivial⟩ (by simp [xs9,xh7,nth,hJL,Ne.symm hJL]) hd fun r oo ⟨at',seed',a1,a2,a3,a4,e,hQ⟩ => by
  subst e; exact ⟨by simp [xj9,xh7,nth,hJL,Ne.symm hJL],hK r at' seed' a1 a2 a3 a4 hQ⟩
theorem retM_ds2 {P : Program} {t : Nat} {st : St} {x : D} {u : Nat->Value} {o0 o1 : AO} (h : lk t st.s=some (.d x)) (h0 : lk 0 st.o=some o0) (h1 : lk 1 st.o=some o1) (k0 : lk 1000000000 st.s=some (.hdr 0 (u 0))) (k1 : lk 1000000001 st.s=some (.hdr 1 (u 1)))
 (r0 : o0.ren (fun j => j)=o0) (r1 : o1.ren (fun j => j)=o1) : retM P [.tmp t] u [0,1] true (.d x) [(0,o0),(1,o1)] .ret st:=by
 simp only [retM,resV,h]
 exact ⟨trivial,⟨fun j => j,rfl,by simpa [r0,r1] using ⟨h0,h1⟩,by simp,⟨rfl,k0,⟨rfl,k1,trivial⟩⟩⟩,.inl trivial⟩
theorem retR_drawL {t : Nat} {u : Nat->Value} {st : St} {code : List Int} {at_ k : Nat} {Q : AV->Prop} {o : AO} {at' : Nat} {seed' : Int} {x : D} (h : lk t st.s=some (.d x)) (ho : lk 0 st.o=some (curB code at' seed')) (hl : lk 1 st.o=some o) (hk : lk 1000000000 st.s=some (.hdr 0 (u 0))) (hk1 : lk 1000000001 st.s=some (.hdr 1 (u 1)))
 (hr : o.ren (fun j => j)=o) (h1 : at_<=at') (h2 : at'<=at_ + k) (h3 : 0<=seed') (h4 : seed' < 18446744073709551616) (hQ : Q (.d x)) :
 retR Tryz.prog [.tmp t] u [0,1] true (fun r oo => ∃ at' seed',at_<=at'∧at'<=at_ + k∧0<=seed'∧seed' < 18446744073709551616∧oo=[(0,curB code at' seed'),(1,o)]∧Q r) .ret st :=
 ⟨_,_,⟨at',seed',h1,h2,h3,h4,rfl,hQ⟩,retM_ds2 h ho hl hk hk1 rfl hr⟩
theorem amongL_ok {code : List Int} (hc : CodeOK code) (l : List Int) (hl : 1<=l.length∧l.length<=60000) :
 zu5 100 [.sl 1] 2 (.arr 3 1 (l.map (.int .i64))) (QI fun x => x ∈ l) code:=fun at_ seed h1 h2 h3 => by
 have c1:=xm5 hc (l.length : Nat) (by omega)
 have hei : ∀ x : Int,0<=x->x < l.length->el (l.map (D.int .i64)) x.toNat=.int .i64 (l.getD x.toNat 0):=fun x hx hl => xl3 (by omega)
 have hm : ∀ x : Int,0<=x->x < l.length->l.getD x.toNat 0 ∈ l:=fun x hx hl => by
  have : x.toNat < l.length:=by omega
  simp [List.getD_eq_getElem?_getD,this]
 refine CtrR.of (n:=12) (rs:=[.tmp 4]) Tryz.func100 rfl rfl Tryz.ntmps100 rfl rfl (by kernel_rfl) Tryz.checked.mixed ?_; intro u
 simp (disch:=first | omega | decide +kernel) only [curO,curB,D.bytes,D.ints,go_sem,Qa,Qb,Qc,Qd,Qe,↓reduceIte,reduceCtorEq,Qf,Qg,Qh]
 (repeat' (first | ((first | (refine xa0 ?_ ?_<;>intro q'<;>(have h':=q')<;>(try simp only [zz] at h')<;>try (exfalso; omega)) | (have q':=trivial; first | (refine xc5 _ (c1) ⟨.inl rfl,.inl rfl,trivial⟩ rfl (by simp [dstB]) (by omega) (by omega) (by omega) ?_; rintro _ at1 sd1 hat11 hat12 hsd11 hsd12 ⟨x1,rfl,hx1⟩) | refine hE _ _ xa5 ?_ | refine hE _ _ xa2 ?_))<;>(try simp (disch:=first | omega | decide +kernel) only [q',curO,curB,D.bytes,D.ints,hei,go_sem,Qa,Qb,Qc,Qd,Qe,↓reduceIte,reduceCtorEq,Qf,Qg,Qh])<;>clear q') | (with_reducible first | refine And.intro ?_ ?_ | omega) | (refine xa1 ?_; omega)))
 all_goals (first | omega | (exact retR_drawL rfl rfl rfl rfl rfl rfl (by omega) (by omega) (by omega) (by omega) ⟨_,rfl,hm _ (by omega) (by omega)⟩))
theorem yr4 {code : List Int} (hc : CodeOK code) (l : List Int) (lo hi : Int) (hl : 1<=l.length∧l.length<=60000) (hb : ∀ x ∈ l,lo<=x∧x<=hi) :
 zu5 100 [.sl 1] 2 (.arr 3 1 (l.map (.int .i64))) (QI fun x => lo<=x∧x<=hi) code:=fun at_ seed h1 h2 h3 =>
 (amongL_ok hc l hl at_ seed h1 h2 h3).mono fun _ _ ⟨a,s,e1,e2,e3,e4,e5,x,e6,e7⟩ => ⟨a,s,e1,e2,e3,e4,e5,x,e6,hb x e7⟩
theorem yr3 {code : List Int} (hc : CodeOK code) (l : List Int) (lo hi : Int) (hl : 1<=l.length∧l.length<=60000) (hb : ∀ x ∈ l,lo<=x∧x<=hi) :
 zg2 100 [.d (D.ints l)] 2 (QI fun x => lo<=x∧x<=hi) code:=fun at_ seed h1 h2 h3 =>
 (among_ok hc l hl at_ seed h1 h2 h3).mono fun _ _ ⟨a,s,e1,e2,e3,e4,e5,x,e6,e7⟩ => ⟨a,s,e1,e2,e3,e4,e5,x,e6,hb x e7⟩
end Abs.Y
