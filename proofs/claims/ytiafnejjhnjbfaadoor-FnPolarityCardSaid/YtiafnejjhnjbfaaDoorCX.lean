/- What functions of this program compute, over plain data. No condition. -/
import Derived.Test.YtiafnejjhnjbfaaDoorBX
import Derived.Test.YtiafnejjhnjbfaaDoorFD3
import Derived.Test.YtiafnejjhnjbfaaDoorFS6
import Derived.Test.YtiafnejjhnjbfaaDoorR3
set_option linter.all false
open Nat renaming reduceEqDiff -> Qa, reduceLT -> Qb, reduceAdd -> Qc, reduceMul -> Qd, reduceSub -> Qe, reduceLeDiff -> Qf, reduceSubDiff -> Qg, reduceBEq -> Qh
open Bool renaming not_eq_true' -> Ba, not_eq_false' -> Bb, and_eq_true -> Bc, or_eq_true -> Bh, or_eq_false_iff -> Be
open Int renaming ofNat_lt -> Ia, ofNat_le -> Ib, not_lt -> Ic, not_le -> Ie
open Decidable renaming not_not -> Da
namespace Abs
open Go Go.RowKit

theorem Ok.go {P : Program} {N : Nat} {c : Code} {Q : Exit->St->Prop} {st : St} (h : Awp P N c Q st) : Ok P N c Q st:=by
 rw [Awp_eq] at h; exact ok_of_awp _ _ _ h
theorem Ok.seq {P : Program} {N : Nat} {x y : Code} {Q : Exit->St->Prop} {st : St} (h : Ok P N x (seqQ (fun st => Ok P N y Q st) Q) st) : Ok P N (.seq x y) Q st:=fun h1 h2 Z B M w0 a w hs => by
 simp only [codeOK,Bc] at h1
 refine sw_mono x (h h1.1 h2 Z B M w0 a w hs) fun e a' w' hl => ?_
 cases e with
 | normal =>
   simp only [lift] at hl
   obtain ⟨st1,hs1,hy⟩:=hl
   exact hy h1.2 h2 Z B M w0 a' w' hs1
 | exit id => exact hl
 | ret => exact hl
 | _ => exact hl
def tagC (u : Value) : D->D
 | .slice (x :: r) => .tag u (x :: r)
 | c => c
def D.unt : D->D
 | .tag _ es => .slice es
 | c => c
def mapCells (f : Nat->D->D) (k : Nat) (es : List D) : List D:=es.zipIdx.map fun p => match p.1 with
 | .agg cs => .agg (cs.zipIdx.map fun q => f (p.2 * k + q.2) q.1)
 | c => f (p.2 * k) c
def tagE (us : Nat->Value) (k : Nat) (es : List D) : List D:=mapCells (fun i c => tagC (us i) c) k es
def resOf (us : Nat->Value) (es : List D) : List (Value × List D):=(flat es).zipIdx.map fun p => match p.1 with
 | .slice (x :: r) => (us p.2,x :: r)
 | _ => (.slice none 0 0,[])
abbrev Tg:=Value × List Int
def D.tg (p : Tg) : D:=tagC p.1 (.slice (p.2.map (.int .i64)))
def resP (p : Tg) : Value × List D:=match p.2 with
 | [] => (.slice none 0 0,[])
 | x :: r => (p.1,(x :: r).map (.int .i64))
def tgs (us : Nat->Value) (cs : List (List Int)) : List Tg:=cs.zipIdx.map fun p => (us p.2,p.1)
mutual
def D.strip : D->D
 | .tag _ es => .slice es
 | .agg cs => .agg (D.stripL cs)
 | x => x
def D.stripL : List D->List D
 | [] => []
 | x :: r => x.strip :: D.stripL r
end
end Abs

namespace Abs
open Go Go.RowKit

end Abs

namespace Abs
open Go Go.RowKit
theorem Ok.seqJ {P : Program} {N : Nat} {x y : Code} {Q : Exit->St->Prop} {st : St} (Sc : St) (h1 : Ok P N y Q Sc) (h2 : Ok P N x (fun e s => (e=.normal∧Wk N s Sc)∨(e ≠ .normal∧Q e s)) st) : Ok P N (.seq x y) Q st :=
 Ok.seq (h2.mono fun e s h => by
  cases e with
  | normal =>
    rcases h with ⟨_,h⟩ | ⟨h,_⟩
    . exact Ok.weak h h1
    . exact absurd rfl h
  | _ =>
    rcases h with ⟨h,_⟩ | ⟨_,h⟩
    . cases h
    . exact h)
theorem retM_vv {P : Program} {t1 t2 : Nat} {st : St} {u : Nat->Value} {x y : D} (h1 : lk t1 st.s=some (.d x)) (h2 : lk t2 st.s=some (.d y)) : retM P [.tmp t1,.tmp t2] u [] true (.tup [.d x,.d y]) [] .ret st:=by
 simp only [retM,resV,h1,h2]
 exact ⟨trivial,⟨fun q => q,rfl,by simp,by simp,trivial⟩,.inl trivial⟩
end Abs

namespace Abs
open Go Go.Proofs
end Abs
namespace Abs.Y
open Go Go.Proofs Abs
set_option maxRecDepth 100000
set_option maxHeartbeats 4000000

theorem formulaText_ok {code : List Int} (hc : CodeOK code) : Draws 23 [] 140 (QT 81) code:=fun at_ seed h1 h2 h3 => by
 have c1:=formula_ok hc
 have c2:=pick_ok hc 16 (by omega)
 have c3:=pick_ok hc 4 (by omega)
 have c4:=ofL_ok hc [⟨#[]⟩,⟨#[103]⟩,⟨#[40,97,38,98]⟩,⟨#[97,38,98]⟩,⟨#[40,41]⟩,⟨#[126]⟩,⟨#[65]⟩] 4 (by decide) (by decide)
 simp only [List.map_cons,List.map_nil] at c4
 have c5:=fun (t : ByteArray) (ht : t.size<=29) => spoilt_ok hc t ⟨#[97,98,48,49,126,40,38,124,62,41]⟩ (by omega) (by decide)
 have z1 : (ByteArray.mk #[126]).size=1:=rfl
 refine CtrR.of (n:=31) (rs:=[.tmp 2]) Tryd.func23 rfl rfl Tryd.ntmps23 rfl rfl (by kernel_rfl) Tryd.checked.mixed ?_; intro u
 simp (disch:=first | omega | decide +kernel) only [curO,curB,D.bytes,go_sem,Qa,Qb,Qc,Qd,Qe,↓reduceIte,reduceCtorEq,Qf,Qg,Qh]
 (repeat' (first | ((first | (refine gsel_split (fun q' => ?_) (fun q' => ?_)<;>(have h':=q')<;>(try simp only [za1,za2,Ba,Bb,za3,ne_eq,za4,za5,za6,Ia,Ib,Ic,Ie,Da,Bc,Bh,Be,za7,za8] at h')<;>try (exfalso; omega)) | (have q':=trivial; first | (refine callX_draw _ (c1) ⟨.inl rfl,trivial⟩ rfl (by simp [dstB]) (by omega) (by omega) (by omega) ?_; rintro _ ata sda hata1 hata2 hsda1 hsda2 ⟨xa,rfl,hxa⟩) | (refine callX_draw _ (c2) ⟨.inl rfl,.inl rfl,trivial⟩ rfl (by simp [dstB]) (by omega) (by omega) (by omega) ?_; rintro _ atb sdb hatb1 hatb2 hsdb1 hsdb2 ⟨xb,rfl,hxb⟩) | (refine callX_draw _ (c5 xa (by omega)) ⟨.inl rfl,.inl rfl,.inl rfl,trivial⟩ rfl (by simp [dstB]) (by omega) (by omega) (by omega) ?_; rintro _ atc sdc hatc1 hatc2 hsdc1 hsdc2 ⟨xc,rfl,hxc⟩) | (refine callX_draw _ (c3) ⟨.inl rfl,.inl rfl,trivial⟩ rfl (by simp [dstB]) (by omega) (by omega) (by omega) ?_; rintro _ atd sdd hatd1 hatd2 hsdd1 hsdd2 ⟨xd,rfl,hxd⟩) | (refine callX_drawL _ _ (c4) ⟨.inl rfl,.inl rfl,trivial⟩ rfl rfl (by decide) (by simp [dstB]) (by omega) (by omega) (by omega) ?_; rintro _ at1 sd1 hat1 hat2 hsd1 hsd2 ⟨x1,rfl,hx1⟩) | refine hE _ _ ret_ne ?_ | refine hE _ _ exit_ne ?_))<;>(try simp (disch:=first | omega | decide +kernel) only [q',curO,curB,D.bytes,go_sem,Qa,Qb,Qc,Qd,Qe,↓reduceIte,reduceCtorEq,Qf,Qg,Qh])<;>clear q') | refine hN _ ?_ ?_ Wk.kk | with_reducible refine And.intro ?_ ?_ | with_reducible omega | exact ok_ints | exact cells_ints | exact no_mem | with_reducible exact plain_ints | (refine le_maxLen ?_; omega) | (refine za9 ⟨?_,?_⟩) | (simp only [go_sem,Qc,Qb,zb1,zb2,forall_eq]; done)))
 all_goals (first | omega | (exact retR_draw rfl rfl rfl (by omega) (by omega) (by omega) (by omega) ⟨_,rfl,by omega⟩) | skip)
 refine Ok.loopN [30,29,28,27,26,25,24,23,22,21,20,19,18,17,16,15,14,13,12,11,10,9,8,7,6,5,3,1] (fun _ (w : ByteArray) => [(3,.d (.str w))]) (fun _ _ => []) (81 - xa.size) (fun i w => w.size=xa.size + i) xa rfl (Wk.kk) ?_
 rintro R i w hN hE hi hw
 simp (disch:=first | omega | decide +kernel) only [go_sem,Qa,Qb,Qc,Qd,Qe,↓reduceIte,reduceCtorEq,Qf,Qg,Qh]
 (repeat' (first | ((first | (refine gsel_split (fun q' => ?_) (fun q' => ?_)<;>(have h':=q')<;>(try simp only [za1,za2,Ba,Bb,za3,ne_eq,za4,za5,za6,Ia,Ib,Ic,Ie,Da,Bc,Bh,Be,za7,za8] at h')<;>try (exfalso; omega)) | (have q':=trivial; first | refine hE _ _ ret_ne ?_ | refine hE _ _ exit_ne ?_))<;>(try simp (disch:=first | omega | decide +kernel) only [q',z1,ByteArray.size_append,go_sem,Qa,Qb,Qc,Qd,Qe,↓reduceIte,reduceCtorEq,Qf,Qg,Qh])<;>clear q') | refine hN _ ?_ ?_ Wk.kk | with_reducible refine And.intro ?_ ?_ | with_reducible omega | exact ok_ints | exact cells_ints | exact no_mem | with_reducible exact plain_ints | (refine le_maxLen ?_; omega) | (refine za9 ⟨?_,?_⟩) | (simp only [go_sem,Qc,Qb,zb1,zb2,forall_eq]; done)))
 all_goals (first | omega | (refine hN (ByteArray.mk #[126]++w) _ (by omega) (by rw [ByteArray.size_append,z1]; omega) (by refine Wk.auto ?_ ?_<;>simp [extraK,lk,killL,St.kill,wipeO,wipeS,AV.has,AV.hasL,AO.wipe,List.map_set,updSt,insL,dropS,ins,])) | (exact retR_draw rfl rfl rfl (by omega) (by omega) (by omega) (by omega) ⟨_,rfl,by omega⟩))
end Abs.Y

namespace Abs
open Go Go.RowKit

def clB (b e : Nat) : Nat:=b &&& (2 ^ 64 - (2 ^ e + 1))
theorem bitV_andC {a e : Nat} (ha : a < 2 ^ 63) (he : e<=62) : bitV .andNot .i64 a ((2 ^ e : Nat) : Int)=((clB a e : Nat) : Int):=by
 have hp : 2 ^ e<=2 ^ 62:=Nat.pow_le_pow_right (by decide) he
 have h : clB a e < 2 ^ 63:=Nat.lt_of_le_of_lt Nat.and_le_left ha
 show IntKind.wrap .i64 (((BitVec.ofInt 64 (a : Int)) &&& ~~~(BitVec.ofInt 64 ((2 ^ e : Nat) : Int))).toNat : Nat)=_
 rw [ofInt_nat,ofInt_nat,BitVec.toNat_and,BitVec.toNat_not,BitVec.toNat_ofNat,BitVec.toNat_ofNat,Nat.mod_eq_of_lt (a:=a) (by omega),Nat.mod_eq_of_lt (a:=2 ^ e) (by omega),show 2 ^ 64 - 1 - 2 ^ e=2 ^ 64 - (2 ^ e + 1) by omega]
 change IntKind.wrap .i64 ((clB a e : Nat) : Int)=_
 rw [wrap_of (by omega)]
theorem clB_bit (a : Nat) {e i : Nat} (he : e<=62) (hi : i < 64) : (clB a e).testBit i=(a.testBit i && !(decide (e=i))):=by
 have hp : 2 ^ e<=2 ^ 62:=Nat.pow_le_pow_right (by decide) he
 rw [clB,Nat.testBit_and,Nat.testBit_two_pow_sub_succ (by omega),Nat.testBit_two_pow,decide_eq_true hi,Bool.true_and]
theorem clB_le (a e : Nat) : clB a e<=a:=Nat.and_le_left
end Abs

namespace Abs.Y
open Go Go.Proofs Abs
set_option maxRecDepth 100000

theorem r_bytes {x : D} (h : isSl isU8 x) : ∃ code : List Int,x=D.bytes code∧∀ i,0<=code.getD i 0∧code.getD i 0 < 256:=by
 obtain ⟨es,rfl,_,hes⟩:=h
 have key : ∀ es : List D,(∀ e ∈ es,isU8 e)->∃ code : List Int,es=code.map (D.int .u8)∧∀ b ∈ code,0<=b∧b < 256:=by
  intro es
  induction es with
  | nil => exact fun _ => ⟨[],rfl,fun _ h => by cases h⟩
  | cons e r ih =>
    intro h
    obtain ⟨n,rfl,h1,h2⟩:=h e (by simp)
    obtain ⟨c,rfl,hc⟩:=ih fun x hx => h x (by simp [hx])
    exact ⟨n :: c,rfl,fun b hb => by
     rcases List.mem_cons.1 hb with rfl | hb
     . omega
     . exact hc b hb⟩
 obtain ⟨code,rfl,hc⟩:=key es hes
 refine ⟨code,rfl,fun i => ?_⟩
 by_cases hi : i < code.length
 . exact hc _ (getD_mem hi)
 . simp [List.getD_eq_getElem?_getD,List.getElem?_eq_none (show code.length<=i by omega)]
end Abs.Y

namespace Abs
open Go Go.Proofs
theorem callX_rels {P : Program} {N f cavs st dst K} {xs : List AV} {sh : Bool} {Q : AV->Prop} (hs : CtrR P f xs [] [] sh fun r oo => oo=[]∧Q r) (hp : passM P (delL [] st.o) (nth []) sh cavs xs) (hd : dstB N dst)
 (hK : ∀ r,Q r->K (impM st dst (nth []) [] r [])) : callX P N f cavs dst K st :=
 callX_rel [] [] [] hs hp trivial (by simp [namesI,keysO]) hd fun r oo ⟨e,hQ⟩ => by subst e; exact ⟨by simp [namesOK,keysO],hK r hQ⟩
theorem retM_v3 {P : Program} {t1 t2 t3 : Nat} {st : St} {u : Nat->Value} {x y z : D} (h1 : lk t1 st.s=some (.d x)) (h2 : lk t2 st.s=some (.d y)) (h3 : lk t3 st.s=some (.d z)) : retM P [.tmp t1,.tmp t2,.tmp t3] u [] true (.tup [.d x,.d y,.d z]) [] .ret st:=by
 simp only [retM,resV,h1,h2,h3]
 exact ⟨trivial,⟨fun q => q,rfl,by simp,by simp,trivial⟩,.inl trivial⟩
end Abs
