/- What functions of this program compute, over plain data. No condition. -/
import Derived.Test.YtiafnejjhnjbfaaDoorAbsJoin
import Derived.Test.YtiafnejjhnjbfaaDoorGF3
import Derived.Test.YtiafnejjhnjbfaaDoorR3
import Derived.Test.YtiafnejjhnjbfaaDoorBX
import Derived.Test.YtiafnejjhnjbfaaDoorAbsLoopO
import Derived.Test.YtiafnejjhnjbfaaDoorAbsReg7
import Derived.Test.YtiafnejjhnjbfaaDoorGF2
set_option linter.all false
open Nat renaming reduceEqDiff -> Qa, reduceLT -> Qb, reduceAdd -> Qc, reduceMul -> Qd, reduceSub -> Qe, reduceLeDiff -> Qf, reduceSubDiff -> Qg, reduceBEq -> Qh
open Bool renaming not_eq_true' -> Ba, not_eq_false' -> Bb, and_eq_true -> Bc, or_eq_true -> Bh, or_eq_false_iff -> Be
open Int renaming ofNat_lt -> Ia, ofNat_le -> Ib, not_lt -> Ic, not_le -> Ie
open Decidable renaming not_not -> Da
namespace Abs
open Go Go.Proofs
end Abs
namespace Abs.Y
open Go Go.Proofs Abs
set_option maxRecDepth 100000
set_option maxHeartbeats 4000000

theorem formulaText_ok {code : List Int} (hc : CodeOK code) : Draws 23 [] 140 (QT 81) code:=fun at_ seed h1 h2 h3 => by
 have c1:=formula_ok hc
 have c2:=pick_ok hc 16 (by omega)
 have c3:=pick_ok hc 4 (by omega)
 have c4:=ofL_ok hc [⟨#[]⟩,⟨#[103]⟩,⟨#[40,97,38,98]⟩,⟨#[97,38,98]⟩,⟨#[40,41]⟩,⟨#[126]⟩,⟨#[65]⟩] 4 (by decide) (by decide)
 simp only [List.map_cons,List.map_nil] at c4
 have c5:=fun (t : ByteArray) (ht : t.size<=29) => spoilt_ok hc t ⟨#[97,98,48,49,126,40,38,124,62,41]⟩ (by omega) (by decide)
 have z1 : (ByteArray.mk #[126]).size=1:=rfl
 refine CtrR.of (n:=31) (rs:=[.tmp 2]) Tryd.func23 rfl rfl Tryd.ntmps23 rfl rfl (by kernel_rfl) Tryd.checked.mixed ?_; intro u
 simp (disch:=first | omega | decide +kernel) only [curO,curB,D.bytes,go_sem,Qa,Qb,Qc,Qd,Qe,↓reduceIte,reduceCtorEq,Qf,Qg,Qh]
 (repeat' (first | ((first | (refine gsel_split (fun q' => ?_) (fun q' => ?_)<;>(have h':=q')<;>(try simp only [za1,za2,Ba,Bb,za3,ne_eq,za4,za5,za6,Ia,Ib,Ic,Ie,Da,Bc,Bh,Be,za7,za8] at h')<;>try (exfalso; omega)) | (have q':=trivial; first | (refine callX_draw _ (c1) ⟨.inl rfl,trivial⟩ rfl (by simp [dstB]) (by omega) (by omega) (by omega) ?_; rintro _ ata sda hata1 hata2 hsda1 hsda2 ⟨xa,rfl,hxa⟩) | (refine callX_draw _ (c2) ⟨.inl rfl,.inl rfl,trivial⟩ rfl (by simp [dstB]) (by omega) (by omega) (by omega) ?_; rintro _ atb sdb hatb1 hatb2 hsdb1 hsdb2 ⟨xb,rfl,hxb⟩) | (refine callX_draw _ (c5 xa (by omega)) ⟨.inl rfl,.inl rfl,.inl rfl,trivial⟩ rfl (by simp [dstB]) (by omega) (by omega) (by omega) ?_; rintro _ atc sdc hatc1 hatc2 hsdc1 hsdc2 ⟨xc,rfl,hxc⟩) | (refine callX_draw _ (c3) ⟨.inl rfl,.inl rfl,trivial⟩ rfl (by simp [dstB]) (by omega) (by omega) (by omega) ?_; rintro _ atd sdd hatd1 hatd2 hsdd1 hsdd2 ⟨xd,rfl,hxd⟩) | (refine callX_drawL _ _ (c4) ⟨.inl rfl,.inl rfl,trivial⟩ rfl rfl (by decide) (by simp [dstB]) (by omega) (by omega) (by omega) ?_; rintro _ at1 sd1 hat1 hat2 hsd1 hsd2 ⟨x1,rfl,hx1⟩) | refine hE _ _ ret_ne ?_ | refine hE _ _ exit_ne ?_))<;>(try simp (disch:=first | omega | decide +kernel) only [q',curO,curB,D.bytes,go_sem,Qa,Qb,Qc,Qd,Qe,↓reduceIte,reduceCtorEq,Qf,Qg,Qh])<;>clear q') | refine hN _ ?_ ?_ Wk.kk | with_reducible refine And.intro ?_ ?_ | with_reducible omega | exact ok_ints | exact cells_ints | exact no_mem | with_reducible exact plain_ints | (refine le_maxLen ?_; omega) | (refine za9 ⟨?_,?_⟩) | (simp only [go_sem,Qc,Qb,zb1,zb2,forall_eq]; done)))
 all_goals (first | omega | (exact retR_draw rfl rfl rfl (by omega) (by omega) (by omega) (by omega) ⟨_,rfl,by omega⟩) | skip)
 refine Ok.loopN [30,29,28,27,26,25,24,23,22,21,20,19,18,17,16,15,14,13,12,11,10,9,8,7,6,5,3,1] (fun _ (w : ByteArray) => [(3,.d (.str w))]) (fun _ _ => []) (81 - xa.size) (fun i w => w.size=xa.size + i) xa rfl (Wk.kk) ?_
 rintro R i w hN hE hi hw
 simp (disch:=first | omega | decide +kernel) only [go_sem,Qa,Qb,Qc,Qd,Qe,↓reduceIte,reduceCtorEq,Qf,Qg,Qh]
 (repeat' (first | ((first | (refine gsel_split (fun q' => ?_) (fun q' => ?_)<;>(have h':=q')<;>(try simp only [za1,za2,Ba,Bb,za3,ne_eq,za4,za5,za6,Ia,Ib,Ic,Ie,Da,Bc,Bh,Be,za7,za8] at h')<;>try (exfalso; omega)) | (have q':=trivial; first | refine hE _ _ ret_ne ?_ | refine hE _ _ exit_ne ?_))<;>(try simp (disch:=first | omega | decide +kernel) only [q',z1,ByteArray.size_append,go_sem,Qa,Qb,Qc,Qd,Qe,↓reduceIte,reduceCtorEq,Qf,Qg,Qh])<;>clear q') | refine hN _ ?_ ?_ Wk.kk | with_reducible refine And.intro ?_ ?_ | with_reducible omega | exact ok_ints | exact cells_ints | exact no_mem | with_reducible exact plain_ints | (refine le_maxLen ?_; omega) | (refine za9 ⟨?_,?_⟩) | (simp only [go_sem,Qc,Qb,zb1,zb2,forall_eq]; done)))
 all_goals (first | omega | (refine hN (ByteArray.mk #[126]++w) _ (by omega) (by rw [ByteArray.size_append,z1]; omega) (by refine Wk.auto ?_ ?_<;>simp [extraK,lk,killL,St.kill,wipeO,wipeS,AV.has,AV.hasL,AO.wipe,List.map_set,updSt,insL,dropS,ins,])) | (exact retR_draw rfl rfl rfl (by omega) (by omega) (by omega) (by omega) ⟨_,rfl,by omega⟩))
end Abs.Y

namespace Abs.Y
open Go Go.Proofs Abs
set_option maxRecDepth 100000

def digS (n : Nat) : ByteArray:=(ByteArray.mk #[48,49,50,51,52,53,54,55,56,57]).extract n (n + 1)
def numN (n : Nat) : ByteArray:=if n < 10 then digS n else numN (n / 10)++digS (n % 10)
termination_by n
decreasing_by omega
def numS (n : Int) : ByteArray:=if n < 0 then ByteArray.mk #[45]++numN n.natAbs else numN n.toNat
end Abs.Y

namespace Abs.Y
open Go Go.Proofs Abs
set_option maxRecDepth 100000

def idxI (p : Int->Bool) (xs : List Int) : Int:=match xs.findIdx? p with | some i => (i : Nat) | none => -1
def subI (a b : List Int) : Bool:=!(a.any fun x => !(b.any (· == x)))
end Abs.Y

namespace Abs.Y
open Go Go.Proofs Abs
set_option maxRecDepth 100000

def okCnf (v : Int) (cs : List (List Int)) : Bool:=(okVars v && decide (cs.length<=60)) && cs.all (okClause v)
def okEarlier (v : Int) (steps : List Step) (k i : Int) : Bool:=(decide (0<=i) && decide (i<=k - 1)) && okClause v (steps.getD i.toNat Step.z).c
end Abs.Y

namespace Abs.Y
open Go Go.Proofs Abs
set_option maxRecDepth 100000

def putI (c : List Int) (l : Int) : List Int:=c.takeWhile (fun x => decide (varI x < varI l))++l :: c.dropWhile (fun x => decide (varI x < varI l))
def joinI : List Int->List Int->Option (List Int)
 | a,[] => some a
 | a,x :: r => if a.any (· == IntKind.i64.wrap (0 - x)) then none else joinI (if a.any (· == x) then a else putI a x) r
def optL (o : Option (List Int)) : List Int:=match o with | some c => c | none => []
def resolveI (a b : List Int) (v : Int) : Option (List Int) :=
 if (a.any (· == v) && b.any (· == IntKind.i64.wrap (0 - v)))=true then joinI (a.filter fun l => varI l != v) (b.filter fun l => varI l != v) else none
end Abs.Y

namespace Abs
open Go Go.Proofs
theorem callX_rels {P : Program} {N f cavs st dst K} {xs : List AV} {sh : Bool} {Q : AV->Prop} (hs : CtrR P f xs [] [] sh fun r oo => oo=[]∧Q r) (hp : passM P (delL [] st.o) (nth []) sh cavs xs) (hd : dstB N dst)
 (hK : ∀ r,Q r->K (impM st dst (nth []) [] r [])) : callX P N f cavs dst K st :=
 callX_rel [] [] [] hs hp trivial (by simp [namesI,keysO]) hd fun r oo ⟨e,hQ⟩ => by subst e; exact ⟨by simp [namesOK,keysO],hK r hQ⟩
theorem endF {P : Program} {N : Nat} {rs u sh} {R : AV->List (Nat × AO)->Prop} {st : St} (js : List Nat) (h : retR P rs u [] sh R .ret (frzs js st)) : ∃ st',Wk N st st'∧retR P rs u [] sh R .ret st' :=
 ⟨_,fun _ β φ _ _ _ _ _ hs => ⟨β,φ,hs.frzs⟩,h⟩
end Abs
namespace Abs.Y
open Go Go.Proofs Abs
set_option maxRecDepth 100000

def NewR (f : FuncId) (xs : List AV) (Q : List Int × Bool->Prop) : Prop:=CtrR Tryd.prog f xs [] [] true fun r oo => ∃ x : List Int × Bool,r=.tup [.sl 1,.d (.bool x.2)]∧oo=[(1,.arr 3 1 (x.1.map (.int .i64)))]∧Q x
def byte (s : ByteArray) (i : Nat) : Int:=(s.data.toList.getD i 0).toNat
def splA (s : ByteArray) (b : Int) : Nat->List ByteArray × Nat
 | 0 => ([],0)
 | i + 1 => if byte s i=b then ((splA s b i).1++[s.extract (splA s b i).2 i],i + 1) else splA s b i
def splI (s : ByteArray) (b : Int) : List ByteArray:=(splA s b s.size).1++[s.extract (splA s b s.size).2 s.size]
@[reducible] def QN : AV->Prop:=fun r => ∃ x : Int × Bool,r=.tup [.d (.int .i64 x.1),.d (.bool x.2)]∧-999999<=x.1∧x.1<=999999
end Abs.Y

namespace Abs.Y
open Go Go.Proofs Abs
set_option maxRecDepth 100000

@[reducible] def QS (n : Nat) : AV->Prop:=fun r => ∃ s : ByteArray,r=.d (.str s)∧s.size<=n
end Abs.Y

namespace Abs.Y
open Go Go.Proofs Abs
set_option maxRecDepth 100000

structure FOK (u : Int) (cs : List (List Int)) : Prop where
 v : 0<=u∧u<=12
 n : cs.length<=60
 k : ∀ c ∈ cs,okClause u c=true
theorem FOK.nil : FOK 0 []:=⟨by omega,by simp,fun _ h => nomatch h⟩
end Abs.Y

namespace Abs.Y
open Go Go.Proofs Abs
set_option maxRecDepth 100000
set_option maxHeartbeats 1000000

end Abs.Y

namespace Abs.Y
open Go Go.Proofs Abs
set_option maxRecDepth 100000
set_option maxHeartbeats 1000000

def DrawsR (f : FuncId) (xs : List AV) (k : Nat) (Q : AO->Prop) (code : List Int) : Prop:=∀ at_ seed,at_ + k<=1099511627776->0<=seed->seed < 18446744073709551616 ->
 CtrR Tryd.prog f (.p 0 0 :: xs) (curO code at_ seed) [0] true fun r oo => ∃ at' seed' o,at_<=at'∧at'<=at_ + k∧0<=seed'∧seed' < 18446744073709551616∧r=.sl 1∧oo=[(0,curB code at' seed'),(1,o)]∧Q o
@[reducible] def QL (Q : List Int->Prop) : AO->Prop:=fun o => ∃ x : List Int,o=.arr 3 1 (x.map (.int .i64))∧Q x
def SmN (n : Nat) (l : List Int) : Prop:=l.length<=n∧∀ x ∈ l,-1000001<=x∧x<=1000001
end Abs.Y

namespace Abs
open Go Go.Proofs
end Abs
namespace Abs.Y
open Go Go.Proofs Abs
set_option maxRecDepth 100000

structure ToOK (u : Int) (to : List Int) : Prop where
 v : 0<=u∧u<=12
 n : (to.length : Int)=u
 a : ∀ i,i < to.length->(to.getD i 0).natAbs=i + 1
end Abs.Y

namespace Abs
open Go Go.Proofs
theorem endFK {P : Program} {N : Nat} {rs u keep sh} {R : AV->List (Nat × AO)->Prop} {st : St} (js : List Nat) (h : retR P rs u keep sh R .ret (frzs js st)) : ∃ st',Wk N st st'∧retR P rs u keep sh R .ret st' :=
 ⟨_,fun _ β φ _ _ _ _ _ hs => ⟨β,φ,hs.frzs⟩,h⟩
end Abs
namespace Abs.Y
open Go Go.Proofs Abs
set_option maxRecDepth 100000

@[reducible] def QF : AV->Prop:=fun r => ∃ x : Int × List (List Int),r=.d (.agg [.int .i64 x.1,.slice (x.2.map D.ints)])∧-1<=x.1∧x.1<=13∧x.2.length<=100∧∀ c ∈ x.2,c.length<=100
end Abs.Y

namespace Abs.Y
open Go Go.Proofs Abs
set_option maxRecDepth 100000

end Abs.Y

namespace Abs.Y
open Go Go.Proofs Abs
set_option maxRecDepth 100000

theorem r_bytes {x : D} (h : isSl isU8 x) : ∃ code : List Int,x=D.bytes code∧∀ i,0<=code.getD i 0∧code.getD i 0 < 256:=by
 obtain ⟨es,rfl,_,hes⟩:=h
 have key : ∀ es : List D,(∀ e ∈ es,isU8 e)->∃ code : List Int,es=code.map (D.int .u8)∧∀ b ∈ code,0<=b∧b < 256:=by
  intro es
  induction es with
  | nil => exact fun _ => ⟨[],rfl,fun _ h => by cases h⟩
  | cons e r ih =>
    intro h
    obtain ⟨n,rfl,h1,h2⟩:=h e (by simp)
    obtain ⟨c,rfl,hc⟩:=ih fun x hx => h x (by simp [hx])
    exact ⟨n :: c,rfl,fun b hb => by
     rcases List.mem_cons.1 hb with rfl | hb
     . omega
     . exact hc b hb⟩
 obtain ⟨code,rfl,hc⟩:=key es hes
 refine ⟨code,rfl,fun i => ?_⟩
 by_cases hi : i < code.length
 . exact hc _ (getD_mem hi)
 . simp [List.getD_eq_getElem?_getD,List.getElem?_eq_none (show code.length<=i by omega)]
end Abs.Y

namespace Abs.Y
open Go Go.Proofs Abs
set_option maxRecDepth 100000

theorem vBig_ok (code : List Int) : Ctr Tryd.prog 13 [D.bytes code] false (.d (.bool (decide (65536 < code.length)))) []:=by
 refine Ctr.of (n:=6) (rs:=[.tmp 2]) Tryd.func13 rfl rfl Tryd.ntmps13 rfl rfl (by kernel_rfl) Tryd.checked.mixed ?_
 simp (disch:=first | omega | decide +kernel) only [D.bytes,go_sem,Qa,Qb,Qc,Qd,Qe,↓reduceIte,reduceCtorEq,Qf,Qg,Qh]
 (repeat' (first | ((first | (refine gsel_split (fun q' => ?_) (fun q' => ?_)<;>(have h':=q')<;>(try simp only [za1,za2,Ba,Bb,za3,ne_eq,za4,za5,za6,Ia,Ib,Ic,Ie,Da,Bc,Bh,Be,za7,za8] at h')) | (have q':=trivial; first | refine hE _ _ ret_ne ?_ | refine hE _ _ exit_ne ?_))<;>(try simp (disch:=first | omega | decide +kernel) only [q',D.bytes,go_sem,Qa,Qb,Qc,Qd,Qe,↓reduceIte,reduceCtorEq,Qf,Qg,Qh])<;>clear q') | refine hN _ ?_ ?_ Wk.kk | with_reducible refine And.intro ?_ ?_ | with_reducible omega | exact ok_ints | exact cells_ints | exact no_mem | with_reducible exact plain_ints | (refine le_maxLen ?_; omega) | (refine za9 ⟨?_,?_⟩) | (simp only [go_sem,Qc,Qb,zb1,zb2,forall_eq]; done)))
 congr 1
 exact decide_eq_decide.2 (by omega)
end Abs.Y
