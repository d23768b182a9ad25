/- What functions of this program compute, over plain data. No condition. -/
import Derived.Test.YtndjinajjejmlaaPM3
import Derived.Test.YtndjinajjejmlaaAbsRow
import Derived.Test.YtndjinajjejmlaaAbsLaws
import Derived.Test.YtndjinajjejmlaaChecked
import Derived.Shelf.SlSortCmp.Whole1
import Derived.Shelf.SlicesE.DeleteFunc
import Derived.Shelf.Slices.CompactI
import Derived.Shelf.Spec.SlicesGrow
import Derived.Shelf.SlicesG.Cmp
import Derived.Shelf.Lay
import Derived.LoopN
import Derived.Deep.RegionWith
import Derived.Ground.SlsfProg
import Derived.Ground.SlgfProg
import Derived.Ground.SlgcProg
import Derived.Ground.Names2Prog
import Derived.Ground.Names8Prog
import Derived.Shelf.SlSortCmp.NoneTotal
import Derived.Lib.RowBridge
set_option linter.all false
open Nat renaming reduceEqDiff -> Qa, reduceLT -> Qb, reduceAdd -> Qc, reduceMul -> Qd, reduceSub -> Qe, reduceLeDiff -> Qf, reduceSubDiff -> Qg, reduceBEq -> Qh
open Bool renaming not_eq_true' -> Ba, not_eq_false' -> Bb, and_eq_true -> Bc, or_eq_true -> Bh, or_eq_false_iff -> Be
open Int renaming ofNat_lt -> Ia, ofNat_le -> Ib, not_lt -> Ic, not_le -> Ie
open Decidable renaming not_not -> Da
namespace Abs.Y
open Go Go.Proofs Abs
set_option maxRecDepth 100000

def mV (a b v : Int) : Int:=if v=b then a else if b < v then v - 1 else v
def mE (a b : Int) (e : Int × Int) : Int × Int:=(min (mV a b e.1) (mV a b e.2),max (mV a b e.1) (mV a b e.2))
def mergeE (a b : Int) (ed : List (Int × Int)) : List (Int × Int):=(ed.filter fun e => mV a b e.1 != mV a b e.2).map (mE a b)
def mergeC (a b : Nat) (ch : List Int) : List Int:=(List.range (ch.length - 1)).map fun w => if w=a then (ch.getD a 0 + ch.getD b 0) % 2 else ch.getD (delN b w) 0
def mergeG (g : Chg) (k : Nat) : Chg:=⟨g.n - 1,mergeE (g.ed.getD k (0,0)).1 (g.ed.getD k (0,0)).2 g.ed,mergeC (g.ed.getD k (0,0)).1.toNat (g.ed.getD k (0,0)).2.toNat g.ch⟩
def dV (b x : Int) : Int:=if x < b then x else x + 1
theorem dV_delN (b w : Nat) : dV b w=delN b w:=by unfold dV delN; split<;>split<;>omega
theorem mV_delN {a b w : Nat} : mV a b (delN b w : Nat)=w:=by
 unfold mV delN
 split<;>split<;>(try split)<;>omega
theorem rs_one {f g : Nat->Int} {a : Nat} : ∀ n,(∀ i,i < n->i ≠ a->f i=g i)->rs n f - rs n g=if a < n then f a - g a else 0
 | 0,_ => rfl
 | n + 1, h => by
   have ih:=rs_one (f:=f) (g:=g) (a:=a) n fun i hi => h i (by omega)
   rw [rs_succ,rs_succ]
   by_cases hn : n=a
   . subst hn
     rw [if_neg (by omega)] at ih
     rw [if_pos (by omega)]; omega
   . have:=h n (by omega) hn
     by_cases ha : a < n
     . rw [if_pos ha] at ih; rw [if_pos (by omega)]; omega
     . rw [if_neg ha] at ih; rw [if_neg (by omega)]; omega
theorem filt_del (p : Nat->Bool) {b : Nat} (hb : p b=false) : ∀ N,(N<=b->(List.range N).filter p=((List.range N).map (delN b)).filter p)∧(b<=N->(List.range (N + 1)).filter p=((List.range N).map (delN b)).filter p)
 | 0 => ⟨fun _ => rfl,fun h => by
  obtain rfl : b=0:=by omega
  simp [hb]⟩
 | N + 1 => by
   obtain ⟨h1,h2⟩:=filt_del p hb N
   refine ⟨fun h => ?_,fun h => ?_⟩
   . rw [List.range_succ,List.filter_append,List.map_append,List.filter_append,h1 (by omega),List.map_cons,List.map_nil,show delN b N=N by unfold delN; rw [if_pos (by omega)]]
   . rw [List.range_succ (n:=N + 1),List.filter_append]
     by_cases hbN : b=N + 1
     . subst hbN
       rw [show [N + 1].filter p=[] by simp [hb],List.append_nil,List.range_succ,List.filter_append,List.map_append,List.filter_append,h1 (by omega),List.map_cons,List.map_nil,show delN (N + 1) N=N by unfold delN; rw [if_pos (by omega)]]
     . rw [h2 (by omega),List.range_succ (n:=N),List.map_append,List.filter_append,List.map_cons,List.map_nil,show delN b N=N + 1 by unfold delN; rw [if_neg (by omega)]]
section
variable {g : Chg} (hg : GoodP g) {a b : Nat} (hab : ((a : Int),(b : Int)) ∈ g.ed) {m : Chg} (hm : m.ed=mergeE a b g.ed)
include hg hab
theorem ab_lt : a < b∧(b : Int) < g.n:=by have:=hg.e _ hab; dsimp only at this; omega
theorem dV_mV {p : Int} : Conn g (dV b (mV a b p)) p:=by
 have h:=ab_lt hg hab
 unfold mV dV
 by_cases hp : p=b
 . subst hp
   rw [if_pos rfl,if_pos (by omega)]
   exact .one (.inl hab)
 . rw [if_neg hp]
   by_cases hb : (b : Int) < p
   . rw [if_pos hb,if_neg (by omega),show p - 1 + 1=p by omega]; exact .refl _
   . rw [if_neg hb,if_pos (by omega)]; exact .refl _
include hm
theorem adj_up {x y : Int} (h : (x,y) ∈ m.ed) : Conn g (dV b x) (dV b y):=by
 rw [hm] at h
 obtain ⟨e,he,e2⟩:=List.mem_map.1 h
 have he:=(List.mem_filter.1 he).1
 unfold mE at e2
 obtain ⟨rfl,rfl⟩:=Prod.mk.inj e2
 have h1:=dV_mV hg hab (p:=e.1)
 have h2:=dV_mV hg hab (p:=e.2)
 have hc : Conn g (dV b (mV a b e.1)) (dV b (mV a b e.2)):=(h1.trans (.one (.inl he))).trans h2.symm
 by_cases hle : mV a b e.1<=mV a b e.2
 . rw [Int.min_eq_left hle,Int.max_eq_right hle]; exact hc
 . rw [Int.min_eq_right (by omega),Int.max_eq_left (by omega)]; exact hc.symm
theorem conn_up {x y : Int} (h : Conn m x y) : Conn g (dV b x) (dV b y):=by
 induction h with
 | refl => exact .refl _
 | step _ ha ih => exact ih.trans (ha.elim (adj_up hg hab hm) fun h => (adj_up hg hab hm h).symm)
theorem conn_down {u v : Int} (h : Conn g u v) : Conn m (mV a b u) (mV a b v):=by
 induction h with
 | refl => exact .refl _
 | @step v w _ ha ih =>
   have key : ∀ e ∈ g.ed,Conn m (mV a b e.1) (mV a b e.2):=fun e he => by
    by_cases hne : mV a b e.1=mV a b e.2
    . rw [hne]; exact .refl _
    . have hin : mE a b e ∈ m.ed:=by
       rw [hm]; exact List.mem_map.2 ⟨e,List.mem_filter.2 ⟨he,by simpa using hne⟩,rfl⟩
      unfold mE at hin
      by_cases hle : mV a b e.1<=mV a b e.2
      . rw [Int.min_eq_left hle,Int.max_eq_right hle] at hin; exact .one (.inl hin)
      . rw [Int.min_eq_right (by omega),Int.max_eq_left (by omega)] at hin; exact .one (.inr hin)
   exact ih.trans (ha.elim (fun h => key _ h) fun h => (key _ h).symm)
theorem connB_del (w x : Nat) : connB m w x=connB g (delN b w) (delN b x):=by
 rw [Bool.eq_iff_iff,connB_iff,connB_iff]
 constructor
 . intro h; have:=conn_up hg hab hm h; rwa [dV_delN,dV_delN] at this
 . intro h; have:=conn_down hg hab hm h; rwa [mV_delN,mV_delN] at this
theorem minB_del (w : Nat) : minB m w=minB g (delN b w):=by
 have hlt:=ab_lt hg hab
 rw [Bool.eq_iff_iff,minB_iff,minB_iff]
 constructor
 . intro h u hu hc
   have hc:=conn_down hg hab hm hc
   rw [mV_delN] at hc
   have hz : ∃ z : Nat,z < w∧mV a b u=z:=by
    unfold delN at hu
    unfold mV
    by_cases hub : u=b
    . subst hub; refine ⟨a,?_,by rw [if_pos rfl]⟩; split at hu<;>omega
    . rw [if_neg (by omega)]
      by_cases hbu : b < u
      . rw [if_pos (by omega)]; refine ⟨u - 1,?_,by omega⟩; split at hu<;>omega
      . rw [if_neg (by omega)]; refine ⟨u,?_,rfl⟩; split at hu<;>omega
   obtain ⟨z,hz1,hz2⟩:=hz
   rw [hz2] at hc
   exact h z hz1 hc
 . intro h u hu hc
   have hc:=conn_up hg hab hm hc
   rw [dV_delN,dV_delN] at hc
   refine h (delN b u) ?_ hc
   unfold delN; split<;>split<;>omega
omit hm in
theorem minB_b : minB g b=false:=by
 have hlt:=ab_lt hg hab
 rw [← Bool.not_eq_true,minB_iff]
 exact fun h => h a hlt.1 (.one (.inl hab))
end
theorem merge_sum {g : Chg} (hg : GoodP g) {a b : Nat} (hab : ((a : Int),(b : Int)) ∈ g.ed) {m : Chg} (hmg : GoodP m) (hn : m.n=g.n - 1) (hm : m.ed=mergeE a b g.ed) (hc : m.ch=mergeC a b g.ch) (w : Nat) :
 decide (Int.tmod (sumP m (cmpV m w)) 2=1)=decide (Int.tmod (sumP g (cmpV g (delN b w))) 2=1):=by
 have hlt:=ab_lt hg hab
 have hgn:=hg.n1
 have hgc:=hg.c
 obtain ⟨N,hN⟩ : ∃ N,g.n.toNat=N + 1:=⟨g.n.toNat - 1,by omega⟩
 have hmn : m.n.toNat=N:=by omega
 rw [sum_compL,sum_compL]
 refine odd_same (rs_nonneg _ (ctS_nonneg hmg w)) (rs_nonneg _ (ctS_nonneg hg _)) ?_
 rw [hmn,hN,(rs_del (ctS g (delN b w)) (b:=b) N).2 (by omega)]
 have hget : ∀ x,x < N->m.ch.getD x 0=if x=a then (g.ch.getD a 0 + g.ch.getD b 0) % 2 else g.ch.getD (delN b x) 0:=fun x hx => by
  rw [hc]; unfold mergeC
  simp [List.getD_eq_getElem?_getD,show x < g.ch.length - 1 by omega]
 have h1:=rs_one (f:=ctS m w) (g:=fun x => ctS g (delN b w) (delN b x)) (a:=a) N fun x hx hxa => by
  unfold ctS
  rw [connB_del hg hab hm,hget x hx,if_neg hxa]
 rw [if_pos (by omega)] at h1
 have hda : delN b a=a:=by unfold delN; rw [if_pos hlt.1]
 have h2 : ctS m w a=if connB g (delN b w) a then (g.ch.getD a 0 + g.ch.getD b 0) % 2 else 0:=by
  unfold ctS
  rw [connB_del hg hab hm,hget a (by omega),if_pos rfl,hda]
 have h3 : connB g (delN b w) b=connB g (delN b w) a:=by
  rw [Bool.eq_iff_iff,connB_iff,connB_iff]
  exact ⟨fun h => .step h (.inr hab),fun h => .step h (.inl hab)⟩
 have h4 : ctS g (delN b w) b=if connB g (delN b w) a then g.ch.getD b 0 else 0:=by unfold ctS; rw [h3]
 have h5 : ctS g (delN b w) (delN b a)=if connB g (delN b w) a then g.ch.getD a 0 else 0:=by rw [hda]; rfl
 rw [h4]
 rw [h2,h5] at h1
 split at h1<;>rename_i hcc
 . rw [if_pos hcc]; omega
 . rw [if_neg hcc]; omega
theorem merge_parts {g : Chg} (hg : GoodP g) {a b : Nat} (hab : ((a : Int),(b : Int)) ∈ g.ed) {m : Chg} (hmg : GoodP m) (hn : m.n=g.n - 1) (hm : m.ed=mergeE a b g.ed) :
 ∃ L : List Nat,partsI m=L.map (cmpV m)∧partsI g=L.map fun w => cmpV g (delN b w):=by
 have hlt:=ab_lt hg hab
 have hgn:=hg.n1
 obtain ⟨N,hN⟩ : ∃ N,g.n.toNat=N + 1:=⟨g.n.toNat - 1,by omega⟩
 have hmn : m.n.toNat=N:=by omega
 refine ⟨(List.range N).filter (minB m),by rw [parts_char (good_iff.2 hmg),hmn],?_⟩
 rw [parts_char (good_iff.2 hg),hN,(filt_del (minB g) (minB_b hg hab) N).2 (by omega),List.filter_map,List.map_map]
 rw [show minB g ∘ delN b=minB m from funext fun w => (minB_del hg hab hm w).symm]
 rfl
end Abs.Y

namespace Abs
open Go Go.RowKit

theorem ofInt_nat (a : Nat) : BitVec.ofInt 64 (a : Int)=BitVec.ofNat 64 a:=by
 apply BitVec.eq_of_toNat_eq; simp [BitVec.toNat_ofInt]
theorem bitV_and {a b : Nat} (ha : a < 2 ^ 63) (hb : b < 2 ^ 63) : bitV .and .i64 a b=((a &&& b : Nat) : Int):=by
 have h : a &&& b < 2 ^ 63:=Nat.and_lt_two_pow _ hb
 show IntKind.wrap .i64 (((BitVec.ofInt 64 (a : Int)) &&& (BitVec.ofInt 64 (b : Int))).toNat : Nat)=_
 rw [ofInt_nat,ofInt_nat,BitVec.toNat_and,BitVec.toNat_ofNat,BitVec.toNat_ofNat,Nat.mod_eq_of_lt (by omega),Nat.mod_eq_of_lt (by omega),wrap_of (by omega)]
theorem shl_one {e : Nat} (he : e<=62) : IntKind.wrap .i64 (1 * 2 ^ min e (IntKind.bits .i64))=((2 ^ e : Nat) : Int):=by
 have h : 2 ^ e<=2 ^ 62:=Nat.pow_le_pow_right (by decide) he
 rw [show min e (IntKind.bits .i64)=e by simp [IntKind.bits]; omega,Int.one_mul]
 have e1 : ((2 : Int) ^ e)=((2 ^ e : Nat) : Int):=by simp
 rw [e1]
 generalize 2 ^ e=x at *
 rw [wrap_of (by omega)]
theorem shr_nat {b e : Nat} (he : e<=62) : (b : Int).fdiv (2 ^ min e (IntKind.bits .i64))=((b >>> e : Nat) : Int):=by
 rw [show min e (IntKind.bits .i64)=e by simp [IntKind.bits]; omega]
 have e1 : ((2 : Int) ^ e)=((2 ^ e : Nat) : Int):=by simp
 rw [e1,Nat.shiftRight_eq_div_pow]
 rw [Int.fdiv_eq_ediv_of_nonneg _ (Int.natCast_nonneg _)]; simp
def bitI (b k : Nat) : Int:=if b.testBit k then 1 else 0
theorem bit_of {b k : Nat} (hk : k<=62) (hb : b < 2 ^ 63) : bitV .and .i64 ((b : Int).fdiv (2 ^ min k (IntKind.bits .i64))) 1=bitI b k:=by
 rw [shr_nat hk]
 have h : b >>> k < 2 ^ 63:=Nat.lt_of_le_of_lt (Nat.shiftRight_le b k) hb
 have:=bitV_and h (b:=1) (by decide)
 rw [show ((1 : Nat) : Int)=1 from rfl] at this
 rw [this,Nat.and_one_is_mod]
 unfold bitI
 rw [Nat.testBit,Nat.one_and_eq_mod_two,bne]
 rcases Nat.mod_two_eq_zero_or_one (b >>> k) with h | h<;>simp [h]
end Abs

namespace Abs.Y
open Go Go.Proofs Abs
set_option maxRecDepth 100000

def eb (g : Chg) (x v : Nat) : Int:=rs g.ed.length fun k => if atB g v k then bitI x k else 0
def satV (g : Chg) (x v : Nat) : Bool:=decide ((g.ch.getD v 0 + eb g x v) % 2=0)
def satG (g : Chg) (x : Nat) : Bool:=(List.range g.n.toNat).all (satV g x)
def cntG (g : Chg) : Nat:=((List.range (2 ^ g.ed.length)).filter (satG g)).length
theorem atB_iff {g : Chg} {v k : Nat} : atB g v k=true↔(v : Int)=(g.ed.getD k (0,0)).1∨(v : Int)=(g.ed.getD k (0,0)).2:=by
 unfold atB
 rw [Bh,decide_eq_true_eq,decide_eq_true_eq]
 constructor<;>rintro (h | h)<;>first | exact .inl h.symm | exact .inr h.symm
theorem testBit_flip (x k j : Nat) : (x ^^^ 2 ^ k).testBit j=(x.testBit j ^^ decide (k=j)):=by
 rw [Nat.testBit_xor,Nat.testBit_two_pow]
theorem bitI_flip (x k : Nat) : bitI (x ^^^ 2 ^ k) k=1 - bitI x k:=by
 unfold bitI; rw [testBit_flip]
 cases x.testBit k<;>simp
theorem bitI_flip_ne {x k j : Nat} (h : j ≠ k) : bitI (x ^^^ 2 ^ k) j=bitI x j:=by
 unfold bitI; rw [testBit_flip,decide_eq_false (fun e => h e.symm),Bool.xor_false]
theorem sat_flip {g : Chg} (hg : GoodP g) {k : Nat} (hk : k < g.ed.length) (x : Nat) : satG (flipG g k) x=satG g (x ^^^ 2 ^ k):=by
 have hm:=getD_mem (z:=((0 : Int),(0 : Int))) hk
 have he:=hg.e _ hm
 have hc:=hg.c
 unfold satG
 show (List.range g.n.toNat).all _=_
 rw [Bool.eq_iff_iff,List.all_eq_true,List.all_eq_true]
 have key : ∀ v,satV (flipG g k) x v=satV g (x ^^^ 2 ^ k) v:=fun v => by
  unfold satV
  have h1:=rs_one (f:=fun j => if atB g v j then bitI (x ^^^ 2 ^ k) j else 0) (g:=fun j => if atB g v j then bitI x j else 0) (a:=k) g.ed.length fun j _ hj => by
   rw [bitI_flip_ne hj]
  rw [if_pos hk,bitI_flip] at h1
  have h2 : (flipG g k).ch.getD v 0=if (v : Int)=(g.ed.getD k (0,0)).1∨(v : Int)=(g.ed.getD k (0,0)).2 then 1 - g.ch.getD v 0 else g.ch.getD v 0:=flipC_get ⟨he.1,he.2.1,by omega⟩ v
  have h3 : eb (flipG g k) x v=rs g.ed.length fun j => if atB g v j then bitI x j else 0:=rfl
  have h4 : eb g (x ^^^ 2 ^ k) v=rs g.ed.length fun j => if atB g v j then bitI (x ^^^ 2 ^ k) j else 0:=rfl
  rw [h3,h4,h2]
  refine decide_eq_decide.2 ?_
  by_cases hat : atB g v k=true
  . rw [if_pos (atB_iff.1 hat)]
    rw [if_pos hat,if_pos hat] at h1
    omega
  . rw [if_neg fun h => hat (atB_iff.2 h)]
    rw [if_neg hat,if_neg hat] at h1
    omega
 constructor
 . intro h v hv; rw [← key]; exact h v hv
 . intro h v hv; rw [key]; exact h v hv
theorem xor_inv (x c : Nat) : (x ^^^ c) ^^^ c=x:=by rw [Nat.xor_assoc,Nat.xor_self,Nat.xor_zero]
theorem perm_of {l l' : List Nat} (h1 : l.Nodup) (h2 : l'.Nodup) (h : ∀ a,a ∈ l↔a ∈ l') : l.Perm l':=(List.perm_ext_iff_of_nodup h1 h2).2 h
theorem cnt_flip {g : Chg} (hg : GoodP g) {k : Nat} (hk : k < g.ed.length) : cntG (flipG g k)=cntG g:=by
 unfold cntG
 show ((List.range (2 ^ g.ed.length)).filter _).length=_
 have h1 : satG (flipG g k)=satG g ∘ fun x => x ^^^ 2 ^ k:=funext fun x => sat_flip hg hk x
 have hpow : 2 ^ k < 2 ^ g.ed.length:=Nat.pow_lt_pow_right (by decide) hk
 have hp : ((List.range (2 ^ g.ed.length)).map fun x => x ^^^ 2 ^ k).Perm (List.range (2 ^ g.ed.length)):=by
  refine perm_of ?_ List.nodup_range fun a => ?_
  . exact List.pairwise_map.2 (List.nodup_range.imp fun {x y} hne h => hne (by have:=congrArg (· ^^^ 2 ^ k) h; simpa [xor_inv] using this))
  . rw [List.mem_map,List.mem_range]
    constructor
    . rintro ⟨x,hx,rfl⟩; exact Nat.xor_lt_two_pow (List.mem_range.1 hx) hpow
    . intro ha; exact ⟨a ^^^ 2 ^ k,List.mem_range.2 (Nat.xor_lt_two_pow ha hpow),xor_inv a _⟩
 rw [h1,← (hp.filter (satG g)).length_eq,List.filter_map,List.length_map]
def remG (g : Chg) (k : Nat) (b : Int) : Chg:=⟨g.n,g.ed.eraseIdx k,if b=1 then flipC g.ch (g.ed.getD k (0,0)) else g.ch⟩
def insB (y k b : Nat) : Nat:=2 ^ k * (2 * (y / 2 ^ k) + b) + y % 2 ^ k
theorem insB_bit {y k b : Nat} (hb : b < 2) (j : Nat) : (insB y k b).testBit j=if j < k then y.testBit j else if j=k then decide (b=1) else y.testBit (j - 1):=by
 unfold insB
 rw [Nat.testBit_two_pow_mul_add _ (Nat.mod_lt _ (Nat.two_pow_pos k))]
 by_cases h : j < k
 . rw [if_pos h,if_pos h,Nat.testBit_mod_two_pow,decide_eq_true h,Bool.true_and]
 . rw [if_neg h,if_neg h]
   by_cases h2 : j=k
   . subst h2
     rw [if_pos rfl,Nat.sub_self,Nat.testBit_zero]
     exact decide_eq_decide.2 (by omega)
   . rw [if_neg h2,show j - k=(j - k - 1) + 1 by omega,Nat.testBit_succ,show (2 * (y / 2 ^ k) + b) / 2=y / 2 ^ k by omega,Nat.testBit_div_two_pow]
     congr 1; omega
theorem bitI_ins {y k b : Nat} (hb : b < 2) : bitI (insB y k b) k=b:=by
 have h0:=insB_bit (y:=y) (k:=k) hb k
 rw [if_neg (by omega),if_pos rfl] at h0
 unfold bitI; rw [h0]
 by_cases h : b=1
 . rw [decide_eq_true h,if_pos rfl,h]; rfl
 . rw [decide_eq_false h,if_neg (by decide)]; omega
theorem bitI_ins_del {y k b : Nat} (hb : b < 2) (j : Nat) : bitI (insB y k b) (delN k j)=bitI y j:=by
 unfold bitI delN
 by_cases h : j < k
 . have h0:=insB_bit (y:=y) (k:=k) hb j
   rw [if_pos h] at h0
   rw [if_pos h,h0]
 . have h0:=insB_bit (y:=y) (k:=k) hb (j + 1)
   rw [if_neg (by omega),if_neg (by omega),Nat.add_sub_cancel] at h0
   rw [if_neg h,h0]
theorem erase_get {α : Type} (l : List α) (z : α) (k j : Nat) : (l.eraseIdx k).getD j z=l.getD (delN k j) z:=by
 rw [List.getD_eq_getElem?_getD,List.getD_eq_getElem?_getD,List.getElem?_eraseIdx]
 unfold delN; split<;>rfl
theorem sat_rem {g : Chg} (hg : GoodP g) {k : Nat} (hk : k < g.ed.length) {b : Nat} (hb : b < 2) (y : Nat) : satG (remG g k b) y=satG g (insB y k b):=by
 have hm:=getD_mem (z:=((0 : Int),(0 : Int))) hk
 have he:=hg.e _ hm
 have hc:=hg.c
 unfold satG
 show (List.range g.n.toNat).all _=_
 rw [Bool.eq_iff_iff,List.all_eq_true,List.all_eq_true]
 obtain ⟨M,hM⟩ : ∃ M,g.ed.length=M + 1:=⟨g.ed.length - 1,by omega⟩
 have key : ∀ v,satV (remG g k b) y v=satV g (insB y k b) v:=fun v => by
  unfold satV
  have hat : ∀ j,atB (remG g k b) v j=atB g v (delN k j):=fun j => by
   unfold atB
   show (decide (((g.ed.eraseIdx k).getD j (0,0)).1=_) || decide (((g.ed.eraseIdx k).getD j (0,0)).2=_))=_
   rw [erase_get]
  have h1 : eb (remG g k b) y v=rs M fun j => if atB g v (delN k j) then bitI y j else 0:=by
   unfold eb
   rw [show (remG g k b).ed.length=M by show (g.ed.eraseIdx k).length=M; rw [List.length_eraseIdx,if_pos hk]; omega]
   exact rs_congr _ fun j _ => by rw [hat]
  have h2 : eb g (insB y k b) v=(rs M fun j => if atB g v (delN k j) then bitI y j else 0) + if atB g v k then (b : Int) else 0:=by
   unfold eb
   rw [hM,(rs_del (fun j => if atB g v j then bitI (insB y k b) j else 0) (b:=k) M).2 (by omega),bitI_ins hb]
   congr 1
   exact rs_congr _ fun j _ => by rw [bitI_ins_del hb]
  rw [h1,h2]
  refine decide_eq_decide.2 ?_
  show ((if (b : Int)=1 then flipC g.ch (g.ed.getD k (0,0)) else g.ch).getD v 0 + _) % 2=0↔_
  by_cases hb1 : b=1
  . subst hb1
    rw [if_pos (show ((1 : Nat) : Int)=1 from rfl),flipC_get ⟨he.1,he.2.1,by omega⟩]
    by_cases ha : atB g v k=true
    . rw [if_pos (atB_iff.1 ha),if_pos ha]; omega
    . rw [if_neg fun h => ha (atB_iff.2 h),if_neg ha]; omega
  . obtain rfl : b=0:=by omega
    rw [if_neg (show ¬ ((0 : Nat) : Int)=1 by decide)]
    split<;>omega
 constructor
 . intro h v hv; rw [← key]; exact h v hv
 . intro h v hv; rw [key]; exact h v hv
theorem insB_div (y k b : Nat) : insB y k b / 2 ^ k=2 * (y / 2 ^ k) + b:=by
 unfold insB
 rw [Nat.mul_add_div (Nat.two_pow_pos k),Nat.div_eq_of_lt (Nat.mod_lt _ (Nat.two_pow_pos k)),Nat.add_zero]
theorem insB_mod (y k b : Nat) : insB y k b % 2 ^ k=y % 2 ^ k:=by
 unfold insB
 rw [Nat.mul_add_mod,Nat.mod_mod]
theorem insB_inj {y y' k b b' : Nat} (hb : b < 2) (hb' : b' < 2) (h : insB y k b=insB y' k b') : y=y'∧b=b':=by
 have h1:=insB_div y k b
 have h2:=insB_mod y k b
 rw [h,insB_div] at h1
 rw [h,insB_mod] at h2
 have h3 : y / 2 ^ k=y' / 2 ^ k:=by omega
 have h4:=Nat.div_add_mod y (2 ^ k)
 have h5:=Nat.div_add_mod y' (2 ^ k)
 rw [h3,← h2,h5] at h4
 exact ⟨h4.symm,by omega⟩
theorem insB_lt {y k b M : Nat} (hk : k<=M) (hb : b < 2) (hy : y < 2 ^ M) : insB y k b < 2 ^ (M + 1):=by
 have h1 : y / 2 ^ k < 2 ^ (M - k):=by
  rw [Nat.div_lt_iff_lt_mul (Nat.two_pow_pos k),← Nat.pow_add,show M - k + k=M by omega]; exact hy
 have h2 : 2 * (y / 2 ^ k) + b + 1<=2 * 2 ^ (M - k):=by omega
 have h3:=Nat.mul_le_mul_left (2 ^ k) h2
 have h4 : 2 ^ k * (2 * 2 ^ (M - k))=2 ^ (M + 1):=by
  rw [show 2 * 2 ^ (M - k)=2 ^ (M - k + 1) by rw [Nat.pow_succ]; omega,← Nat.pow_add]; congr 1; omega
 have h5:=Nat.mod_lt y (Nat.two_pow_pos k)
 have h6 : 2 ^ k * (2 * (y / 2 ^ k) + b + 1)=2 ^ k * (2 * (y / 2 ^ k) + b) + 2 ^ k:=by rw [Nat.mul_add _ _ 1,Nat.mul_one]
 unfold insB
 omega
theorem insB_onto {x k M : Nat} (hk : k<=M) (hx : x < 2 ^ (M + 1)) : ∃ y b,y < 2 ^ M∧b < 2∧insB y k b=x:=by
 have hp:=Nat.two_pow_pos k
 have hq : (2 ^ k * (x / 2 ^ k / 2) + x % 2 ^ k) / 2 ^ k=x / 2 ^ k / 2:=by
  rw [Nat.mul_add_div hp,Nat.div_eq_of_lt (Nat.mod_lt _ hp),Nat.add_zero]
 have hr : (2 ^ k * (x / 2 ^ k / 2) + x % 2 ^ k) % 2 ^ k=x % 2 ^ k:=by rw [Nat.mul_add_mod,Nat.mod_mod]
 refine ⟨2 ^ k * (x / 2 ^ k / 2) + x % 2 ^ k,x / 2 ^ k % 2,?_,by omega,?_⟩
 . have h1 : x / 2 ^ k < 2 ^ (M + 1 - k):=by
    rw [Nat.div_lt_iff_lt_mul hp,← Nat.pow_add,show M + 1 - k + k=M + 1 by omega]; exact hx
   rw [show M + 1 - k=(M - k) + 1 by omega,Nat.pow_succ] at h1
   have h2 : x / 2 ^ k / 2 + 1<=2 ^ (M - k):=by omega
   have h3:=Nat.mul_le_mul_left (2 ^ k) h2
   rw [← Nat.pow_add,show k + (M - k)=M by omega,Nat.mul_add,Nat.mul_one] at h3
   have:=Nat.mod_lt x hp
   omega
 . unfold insB
   rw [hq,hr,show 2 * (x / 2 ^ k / 2) + x / 2 ^ k % 2=x / 2 ^ k by omega,Nat.div_add_mod]
theorem cnt_rem {g : Chg} (hg : GoodP g) {k : Nat} (hk : k < g.ed.length) : cntG (remG g k 0) + cntG (remG g k 1)=cntG g:=by
 obtain ⟨M,hM⟩ : ∃ M,g.ed.length=M + 1:=⟨g.ed.length - 1,by omega⟩
 have hl : ∀ b,(remG g k b).ed.length=M:=fun b => by show (g.ed.eraseIdx k).length=M; rw [List.length_eraseIdx,if_pos hk]; omega
 have hp : ((List.range (2 ^ M)).map (fun y => insB y k 0)++(List.range (2 ^ M)).map (fun y => insB y k 1)).Perm (List.range (2 ^ (M + 1))):=by
  have hnd : ∀ b,b < 2->((List.range (2 ^ M)).map fun y => insB y k b).Nodup:=fun b hb =>
   List.pairwise_map.2 (List.nodup_range.imp fun {x y} hne h => hne (insB_inj hb hb h).1)
  refine perm_of (List.nodup_append.2 ⟨hnd 0 (by omega),hnd 1 (by omega),fun a ha c hcc e => ?_⟩) List.nodup_range fun a => ?_
  . obtain ⟨y,_,rfl⟩:=List.mem_map.1 ha
    obtain ⟨y',_,rfl⟩:=List.mem_map.1 hcc
    exact absurd (insB_inj (by omega) (by omega) e).2 (by decide)
  . rw [List.mem_append,List.mem_map,List.mem_map,List.mem_range]
    constructor
    . rintro (⟨y,hy,rfl⟩ | ⟨y,hy,rfl⟩)<;>exact insB_lt (by omega) (by omega) (List.mem_range.1 hy)
    . intro ha
      obtain ⟨y,b,h1,h2,rfl⟩:=insB_onto (k:=k) (by omega) ha
      rcases (by omega : b=0∨b=1) with rfl | rfl
      . exact .inl ⟨y,List.mem_range.2 h1,rfl⟩
      . exact .inr ⟨y,List.mem_range.2 h1,rfl⟩
 unfold cntG
 rw [hl,hl,hM,← (hp.filter (satG g)).length_eq,List.filter_append,List.length_append,List.filter_map,List.filter_map,List.length_map,List.length_map]
 have h0 : satG (remG g k 0)=satG g ∘ fun y => insB y k 0:=funext fun y => sat_rem hg hk (b:=0) (by omega) y
 have h1 : satG (remG g k 1)=satG g ∘ fun y => insB y k 1:=funext fun y => sat_rem hg hk (b:=1) (by omega) y
 rw [h0,h1]
theorem rs_add (f h : Nat->Int) : ∀ n,rs n (fun i => f i + h i)=rs n f + rs n h
 | 0 => rfl
 | n + 1 => by rw [rs_succ,rs_succ,rs_succ,rs_add f h n]; omega
theorem rs_z (m : Nat) : rs m (fun _ => 0)=0:=by
 induction m with
 | zero => rfl
 | succ m ih => rw [rs_succ,ih]; rfl
theorem rs_swap (F : Nat->Nat->Int) (m : Nat) : ∀ n,rs n (fun v => rs m (F v))=rs m fun k => rs n fun v => F v k
 | 0 => by
   rw [rs_zero]
   have:=rs_z m
   simpa [rs_zero] using this.symm
 | n + 1 => by
   rw [rs_succ,rs_swap F m n,← rs_add]
   exact rs_congr _ fun k _ => by rw [rs_succ]
end Abs.Y

namespace Abs.Y
open Go Go.Proofs Abs
set_option maxRecDepth 100000

def okCnf (v : Int) (cs : List (List Int)) : Bool:=(okVars v && decide (cs.length<=60)) && cs.all (okClause v)
theorem okCnf_bad {v : Int} {cs : List (List Int)} {i : Nat} (h : i < cs.length) (h' : okClause v (cs.getD i [])=false) : okCnf v cs=false:=by
 rw [okCnf,all_false (z:=[]) h h',Bool.and_false]
theorem okCnf_good {v : Int} {cs : List (List Int)} (h : ∀ j,j < cs.length->okClause v (cs.getD j [])=true) : okCnf v cs=(okVars v && decide (cs.length<=60)):=by
 rw [okCnf,all_true (z:=[]) h,Bool.and_true]
theorem isCnf_ok (v : Int) (cs : List (List Int)) (hl : cs.length<=4294967296) (hc : ∀ j,(cs.getD j []).length<=4294967296) :
 Ctr Try.prog 32 [.agg [.int .i64 v,.slice (cs.map D.ints)]] false (.d (.bool (okCnf v cs))) []:=by
 refine Ctr.of (n:=27) (rs:=[.tmp 2]) Try.func32 rfl rfl Try.ntmps32 rfl rfl (by kernel_rfl) Try.checked.mixed ?_
 simp (disch:=first | omega | decide +kernel) only [go_sem,Qa,Qb,Qc,Qd,Qe,↓reduceIte,reduceCtorEq,Qf,Qg,Qh]
 refine Ok.loopC [17,16,15,14,13,12,11,10,9,8,5,4,3,2,0] (fun i => [(8,.d (.int .i64 (i : Nat)))]) cs.length (fun i => ∀ j,j < i->okClause v (cs.getD j [])=true) (by simp) (Wk.kk) ?_
 intro R i hN hE hi hI
 simp (disch:=first | omega | decide +kernel) only [go_sem,Qa,Qb,Qc,Qd,Qe,↓reduceIte,reduceCtorEq,Qf,Qg,Qh]
 (repeat' (first | ((first | (refine gsel_split (fun q' => ?_) (fun q' => ?_)<;>(have h':=q')<;>(try simp only [za1,za2,Ba,Bb,za3,ne_eq,za4,za5,za6,Ia,Ib,Ic,Ie,Da,Bc,Bh,Be,za7,za8] at h')) | (have q':=trivial; first | refine callX_new (isClause_ok v _ (hc _)) rfl (by decide) ?_ | refine callY_new (isClause_ok v _ (hc _)) rfl ?_ | refine callX_new (varsOk_ok _) rfl (by decide) ?_ | refine callY_new (varsOk_ok _) rfl ?_ | refine hE _ _ ret_ne ?_ | refine hE _ _ exit_ne ?_))<;>(try simp (disch:=first | omega | decide +kernel) only [q',go_sem,Qa,Qb,Qc,Qd,Qe,↓reduceIte,reduceCtorEq,Qf,Qg,Qh])<;>clear q') | refine hN _ ?_ ?_ Wk.kk | with_reducible refine And.intro ?_ ?_ | with_reducible omega | exact ok_ints | exact cells_ints | exact no_mem | with_reducible exact plain_ints | (refine le_maxLen ?_; omega) | (refine za9 ⟨?_,?_⟩) | (simp only [go_sem,Qc,Qb,zb1,zb2,forall_eq]; done)))
 . rename_i h1
   rw [okCnf_bad h1 h']
 . exact all_succ hI h'
 . rw [okCnf_good fun j hj => hI j (by omega),h',Bool.true_and,decide_eq_decide.2 (by omega : (cs.length : Int)<=60↔cs.length<=60)]
 . simp [okCnf,h']
def okEarlier (v : Int) (steps : List Step) (k i : Int) : Bool:=(decide (0<=i) && decide (i<=k - 1)) && okClause v (steps.getD i.toNat Step.z).c
end Abs.Y

namespace Abs.Y
open Go Go.Proofs Abs
set_option maxRecDepth 100000

theorem clone_ok (xs : List Int) (hl : xs.length<=4294967296) : Ctr Try.prog 48 [.ints xs] false (.sl 0) [(0,.arr 3 1 (xs.map (.int .i64)))]:=by
 refine Ctr.of (n:=8) (rs:=[.tmp 2]) Try.func48 rfl rfl Try.ntmps48 rfl rfl (by kernel_rfl) Try.checked.mixed ?_
 simp (disch:=first | omega | decide +kernel) only [D.ints,go_sem,Qa,Qb,Qc,Qd,Qe,↓reduceIte,reduceCtorEq,Qf,Qg,Qh]
 intro b hb
 cases b with
 | true =>
   obtain rfl : xs=[]:=by cases xs with | nil => rfl | cons x r => simp at hb
   simp (disch:=first | omega | decide +kernel) only [go_sem,Qa,Qb,Qc,Qd,Qe,↓reduceIte,reduceCtorEq,Qf,Qg,Qh]
   (repeat' (first | ((first | (refine gsel_split (fun q' => ?_) (fun q' => ?_)<;>(have h':=q')<;>(try simp only [za1,za2,Ba,Bb,za3,ne_eq,za4,za5,za6,Ia,Ib,Ic,Ie,Da,Bc,Bh,Be,za7,za8] at h')) | (have q':=trivial; first | refine hE _ _ ret_ne ?_ | refine hE _ _ exit_ne ?_))<;>(try simp (disch:=first | omega | decide +kernel) only [q',go_sem,Qa,Qb,Qc,Qd,Qe,↓reduceIte,reduceCtorEq,Qf,Qg,Qh])<;>clear q') | refine hN _ ?_ ?_ Wk.kk | with_reducible refine And.intro ?_ ?_ | with_reducible omega | exact ok_ints | exact cells_ints | exact no_mem | with_reducible exact plain_ints | (refine le_maxLen ?_; omega) | (refine za9 ⟨?_,?_⟩) | (simp only [go_sem,Qc,Qb,zb1,zb2,forall_eq]; done)))
   exact ret_sl 2 rfl rfl no_mem
 | false =>
   simp (disch:=first | omega | decide +kernel) only [go_sem,Qa,Qb,Qc,Qd,Qe,↓reduceIte,reduceCtorEq,Qf,Qg,Qh]
   (repeat' (first | ((first | (refine gsel_split (fun q' => ?_) (fun q' => ?_)<;>(have h':=q')<;>(try simp only [za1,za2,Ba,Bb,za3,ne_eq,za4,za5,za6,Ia,Ib,Ic,Ie,Da,Bc,Bh,Be,za7,za8] at h')) | (have q':=trivial; first | refine hE _ _ ret_ne ?_ | refine hE _ _ exit_ne ?_))<;>(try simp (disch:=first | omega | decide +kernel) only [q',go_sem,Qa,Qb,Qc,Qd,Qe,↓reduceIte,reduceCtorEq,Qf,Qg,Qh])<;>clear q') | refine hN _ ?_ ?_ Wk.kk | with_reducible refine And.intro ?_ ?_ | with_reducible omega | exact ok_ints | exact cells_ints | exact no_mem | with_reducible exact plain_ints | (refine le_maxLen ?_; omega) | (refine za9 ⟨?_,?_⟩) | (simp only [go_sem,Qc,Qb,zb1,zb2,forall_eq]; done)))
   exact ret_sl 5 rfl rfl plain_ints
def putI (c : List Int) (l : Int) : List Int:=c.takeWhile (fun x => decide (varI x < varI l))++l :: c.dropWhile (fun x => decide (varI x < varI l))
def joinI : List Int->List Int->Option (List Int)
 | a,[] => some a
 | a,x :: r => if a.any (· == IntKind.i64.wrap (0 - x)) then none else joinI (if a.any (· == x) then a else putI a x) r
def optL (o : Option (List Int)) : List Int:=match o with | some c => c | none => []
def resolveI (a b : List Int) (v : Int) : Option (List Int) :=
 if (a.any (· == v) && b.any (· == IntKind.i64.wrap (0 - v)))=true then joinI (a.filter fun l => varI l != v) (b.filter fun l => varI l != v) else none
end Abs.Y

namespace Go.Proofs
open Go.Shelf Go.RowKit Go.Lib Go.Sort
def cmpLit (a b : Int) : Int:=if compareInt (max a (wrap64 (-a))) (max b (wrap64 (-b))) ≠ 0 then compareInt (max a (wrap64 (-a))) (max b (wrap64 (-b))) else compareInt b a
end Go.Proofs

namespace Abs
open Go Go.RowKit Go.Sort Go.Proofs Go.Shelf

theorem flat_ints {k : IntKind} : ∀ xs : List Int,flat (xs.map (D.int k))=xs.map (D.int k)
 | [] => rfl
 | x :: r => by
   have:=flat_ints (k:=k) r
   simp only [flat,List.map_cons,List.flatMap_cons] at this ⊢
   rw [this]; rfl

theorem arr_open {β S w e xs v F} (h : OK β S w (.arr e 1 (xs.map (.int .i64))) v F) : (v=.slice none 0 0∧xs=[]) ∨
 ∃ g cap cur,v=.slice (some ⟨g,0,none⟩) xs.length cap∧w.heap[g]? = some (.cells cur e (0,0))∧xs.length<=cap∧cap<=maxLen∧cur.size=cap∧cur.toList.take xs.length=xs.map (Value.int .i64):=by
 cases h with
 | arr hF vs hk0 hk hw hr =>
   have hvs : vs=xs.map (Value.int .i64):=by
    have hl : vs.length=xs.length:=by have:=hw.1; simpa using this
    apply List.ext_getElem (by simpa using hl)
    intro i h1 h2
    have h3:=hr i (by rw [flat_ints]; simpa using h2)
    rw [flat_ints] at h3
    have hi : i < xs.length:=by simpa using h2
    simp only [List.getD_eq_getElem?_getD,List.getElem?_map,List.getElem?_eq_getElem hi,List.getElem?_eq_getElem h1,Option.map_some,Option.getD_some] at h3
    cases h3'' : vs[i] with
    | int k n => rw [h3''] at h3; cases h3; simp
    | _ => rw [h3''] at h3; cases h3
   rcases hw.2 with ⟨h1,h2⟩ | ⟨g,cap,cur,h1,_,h3,h4,h5,h6,h7⟩
   . exact .inl ⟨h1,by simpa using h2⟩
   . refine .inr ⟨g,cap,cur,by simpa using h1,h3,by simpa using h4,h5,by simpa using h6,?_⟩
     rw [← hvs]; simpa using h7

theorem arr_close {β' S' w' e g cap} {cur' : Array Value} {ys : List Int} (hb : w'.heap[g]? = some (.cells cur' e (0,0))) (hcap : ys.length<=cap) (hm : cap<=maxLen) (hsz : cur'.size=cap) (ht : cur'.toList.take ys.length=ys.map (Value.int .i64)) :
 OK β' S' w' (.arr e 1 (ys.map (.int .i64))) (.slice (some ⟨g,0,none⟩) ys.length cap) (ownS (.slice (some ⟨g,0,none⟩) ys.length cap)):=by
 refine .arr rfl (ys.map (Value.int .i64)) (by omega) (fun x hx => ?_) ⟨by simp,.inr ⟨g,cap,cur',by simp,Nat.zero_le _,hb,by simpa using hcap,hm,by simpa using hsz,by simpa using ht⟩⟩ fun i hi => ?_
 . obtain ⟨y,_,rfl⟩:=List.mem_map.1 hx; rfl
 . rw [flat_ints] at hi ⊢
   have hi' : i < ys.length:=by simpa using hi
   simp only [List.getD_eq_getElem?_getD,List.getElem?_map,List.getElem?_eq_getElem hi',Option.map_some,Option.getD_some]
   exact .int _ _
theorem arr_nil {β' S' w' e} : OK β' S' w' (.arr e 1 ([].map (D.int .i64))) (.slice none 0 0) (ownS (.slice none 0 0)) :=
 .arr rfl [] (by omega) (by simp) ⟨by simp,.inl ⟨rfl,by simp⟩⟩ (by simp [flat])

theorem holds_of {w : World} {g : Nat} {cur : Array Value} {e : TypeId} {xs : List Int} (hb : w.heap[g]? = some (.cells cur e (0,0))) (ht : cur.toList.take xs.length=xs.map (Value.int .i64)) : Holds (Value.int .i64) w g 0 xs.toArray:=by
 intro j hj
 have hj' : j < xs.length:=by simpa using hj
 refine ⟨?_,by simp [World.frozen?, hb]⟩
 have h1:=congrArg (fun l : List Value => l[j]?) ht
 simp only [List.getElem?_take,if_pos hj',List.getElem?_map,List.getElem?_eq_getElem hj',Option.map_some] at h1
 have h2 : cur[j]? = some (Value.int .i64 xs[j]):=by rw [← h1]; simp
 simp [World.cell?, hb,h2,hj']

theorem putRow_block {w : World} {g : Nat} {cur : Array Value} {e : TypeId} (d : Array Int) (hb : w.heap[g]? = some (.cells cur e (0,0))) :
 (putRow (Value.int .i64) w g 0 d).heap[g]? = some (.cells (putCells (Value.int .i64) 0 d cur) e (0,0)):=by
 simp [putRow,mapBlock,Array.getElem?_modify,hb,onCells]
theorem putRow_other {w : World} {g k : Nat} (d : Array Int) (h : k ≠ g) : (putRow (Value.int .i64) w g 0 d).heap[k]? = w.heap[k]? := by
 simp only [putRow,mapBlock,Array.getElem?_modify]
 rw [if_neg (Ne.symm h)]
theorem putCells_take (d : Array Int) (cur : Array Value) (k : Nat) (hk : k<=d.size) (hd : d.size<=cur.size) : (putCells (Value.int .i64) 0 d cur).toList.take k=(d.toList.take k).map (Value.int .i64):=by
 apply List.ext_getElem?
 intro i
 simp only [List.getElem?_take,List.getElem?_map,putCells]
 split
 . rename_i hi
   have h1 : i < cur.size:=by omega
   have h2 : i < d.size:=by omega
   simp [h1,h2]
 . rfl

theorem sortWorld_fr {w : World} {g m : Nat} {d : Array Int} {os : Array Obj} {M : Nat->Prop} (hM : M g) : Fr w.heap.size M w (sortWorld (Value.int .i64) w g 0 m d os):=by
 refine ⟨rfl,rfl,rfl,?_,?_,fun k hk hkM => ?_,Nat.le_add_right _ _⟩
 . show w.heap.size<=((putRow _ (ahead w m) g 0 d).heap++os).size
   rw [Array.size_append,Go.Sort.size_putRow]; simp
 . show w.heap.size<=((putRow _ (ahead w m) g 0 d).heap++os).size
   rw [Array.size_append,Go.Sort.size_putRow]; simp
 . have hne : k ≠ g:=fun e => hkM (e ▸ hM)
   show ((putRow _ (ahead w m) g 0 d).heap++os)[k]? = _
   rw [Array.getElem?_append_left (by rw [Go.Sort.size_putRow]; exact hk),putRow_other _ hne]; rfl
theorem sortWorld_block {w : World} {g m : Nat} {d : Array Int} {os : Array Obj} {cur : Array Value} {e : TypeId} (hb : w.heap[g]? = some (.cells cur e (0,0))) :
 (sortWorld (Value.int .i64) w g 0 m d os).heap[g]? = some (.cells (putCells (Value.int .i64) 0 d cur) e (0,0)):=by
 have hlt : g < w.heap.size:=(Array.getElem?_eq_some_iff.1 hb).1
 show ((putRow _ (ahead w m) g 0 d).heap++os)[g]? = _
 rw [Array.getElem?_append_left (by rw [Go.Sort.size_putRow]; exact hlt)]
 exact putRow_block d hb

theorem CtrM.inPlace {P : Program} {f : FuncId} {rest : List AV} {e : TypeId} {xs ys : List Int} (hent : Enters P f) (hl : ys.length=xs.length) (hx : xs.length<=4294967296)
 (h : ∀ (S : Nat->Prop) (β : Nat->Value) (w : World) (rv : List Value),rv.length=rest.length->(∀ i,i < rest.length->Rel β S w (rest.getD i .undef) (rv.getD i Go.undef)) ->
  (xs=[]->∀ a cap,Calls P f (.slice a 0 cap :: rv).toArray w fun en w' => en=.returned (.tuple #[])∧w'=w) ∧
  (∀ g cap,Holds (Value.int .i64) w g 0 xs.toArray->g < w.heap.size->Calls P f (.slice (some ⟨g,0,none⟩) xs.length cap :: rv).toArray w fun en w' => en=.returned (.tuple #[])∧∃ m os,w'=sortWorld (Value.int .i64) w g 0 m ys.toArray os)) :
 CtrM P f (.sl 0 :: rest) [(0,.arr e 1 (xs.map (.int .i64)))] [0] false (.tup []) [(0,.arr e 1 (ys.map (.int .i64)))]:=by
 refine ⟨hent,fun S β φ w vs hvl hvr hO hD => ?_⟩
 cases vs with
 | nil => simp at hvl
 | cons v rv =>
   obtain ⟨h1,h2⟩:=h (free S φ [(0,.arr e 1 (xs.map (.int .i64)))]) β w rv (by simpa using hvl) fun i hi => by simpa using hvr (i + 1) (by simpa using hi)
   have hv : v=β 0:=by
    have:=hvr 0 (by simp)
    simp only [List.getD_cons_zero] at this
    cases this; rfl
   have hOk:=hO 0 (.arr e 1 (xs.map (.int .i64))) (by simp [lk])
   have hFo : φ 0=ownS (β 0):=by
    generalize β 0=v0 at *
    generalize φ 0=F0 at *
    cases hOk with | arr hF => exact hF
   have one : ∀ {j : Nat} {o : AO} {l : List Int},lk j [(0,AO.arr e 1 (l.map (D.int .i64)))]=some o->j=0∧o=.arr e 1 (l.map (.int .i64)):=fun hj => by
    simp only [lk] at hj
    split at hj
    . rename_i e'; cases hj; exact ⟨e',rfl⟩
    . cases hj
   rcases arr_open hOk with ⟨h3,rfl⟩ | ⟨g,cap,cur,h3,h4,h5,h6,h7,h8⟩
   . obtain rfl : ys=[]:=by simpa using hl
     rw [hv,h3]
     refine (h1 rfl none 0).mono fun en w' ⟨he,hw⟩ => ⟨_,he,?_,?_⟩
     . subst hw; exact ⟨rfl,rfl,rfl,Nat.le_refl _,Nat.le_refl _,fun _ _ _ => rfl,Nat.le_refl _⟩
     . subst hw
       refine ⟨β,φ,fun _ _ => rfl,Rel.tup (xs:=[]) (vs:=[]) rfl (by simp),fun j o hj => ?_,fun j o g hj hg => ?_,fun j j' o o' g hj hj' _ _ => ?_⟩
       . obtain ⟨rfl,rfl⟩:=one (l:=[]) hj
         rw [hFo,h3]; exact arr_nil
       . obtain ⟨rfl,rfl⟩:=one (l:=[]) hj
         rw [hFo,h3] at hg; cases hg
       . rw [(one (l:=[]) hj).1,(one (l:=[]) hj').1]
   . have hlt : g < w.heap.size:=(Array.getElem?_eq_some_iff.1 h4).1
     have hM : blocksOf φ [(0,AO.arr e 1 (xs.map (D.int .i64)))] g:=⟨0,.arr e 1 (xs.map (.int .i64)),by simp [lk],by rw [hFo,h3]; rfl⟩
     rw [hv,h3]
     refine (h2 g cap (holds_of h4 h8) hlt).mono fun en w' ⟨he,m,os,hw⟩ => ⟨_,he,?_,?_⟩
     . subst hw; exact sortWorld_fr hM
     . subst hw
       refine ⟨β,φ,fun _ _ => rfl,Rel.tup (xs:=[]) (vs:=[]) rfl (by simp),fun j o hj => ?_,fun j o g' hj hg => ?_,fun j j' o o' g hj hj' _ _ => ?_⟩
       . obtain ⟨rfl,rfl⟩:=one (l:=ys) hj
         rw [hFo,h3,← hl]
         refine arr_close (sortWorld_block h4) (by omega) h6 (by simp [putCells,h7]) ?_
         have:=putCells_take ys.toArray cur ys.length (by simp) (by simp; omega)
         simpa using this
       . obtain ⟨rfl,rfl⟩:=one (l:=ys) hj
         rw [hFo,h3] at hg
         cases hg
         exact .inr hM
       . rw [(one (l:=ys) hj).1,(one (l:=ys) hj').1]

end Abs

namespace Abs.Y
open Go Go.Proofs Abs Go.Sort Go.Shelf Go.Lib Go.RowKit
set_option maxRecDepth 100000

def mI (a : Int) : Int:=max a (wrap64 (-a))
def sortL (xs : List Int) : List Int:=xs.mergeSort fun x y => !(ltOf cmpLit y x)
def compL (xs : List Int) : List Int:=Lib.compact xs
end Abs.Y

namespace Abs.Y
open Go Go.Proofs Abs
set_option maxRecDepth 100000
end Abs.Y

namespace Abs.Y
open Go Go.Proofs Abs
set_option maxRecDepth 100000
def noPair (s : List Int) : Prop:=∀ j,j < s.length->0 < j->s.getD j 0 ≠ IntKind.i64.wrap (0 - s.getD (j - 1) 0)
instance (s) : Decidable (noPair s):=by unfold noPair; infer_instance
def clauseI (xs : List Int) : Option (List Int):=if noPair (compL (sortL xs)) then some (compL (sortL xs)) else none
def resolveP (a b : List Int) (v : Int) : Option (List Int) :=
 if (a.any (· == v) && b.any (· == IntKind.i64.wrap (0 - v)))=true then clauseI ((a.filter fun l => !(mI l == v))++(b.filter fun l => !(mI l == v))) else none
end Abs.Y
