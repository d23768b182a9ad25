/- What functions of this program compute, over plain data. No condition. -/
import Derived.Test.YtdohpocdlkcaoaaE5
import Derived.Test.YtdohpocdlkcaoaaE0
import Derived.Test.YtdohpocdlkcaoaaAbsRow
set_option linter.all false
namespace Abs.Y
open Go Go.Proofs Abs
open Nat renaming reduceEqDiff -> Qa, reduceLT -> Qb, reduceAdd -> Qc, reduceMul -> Qd, reduceSub -> Qe, reduceLeDiff -> Qf, reduceSubDiff -> Qg, reduceBEq -> Qh
open Bool renaming not_eq_true' -> Ba, not_eq_false' -> Bb, and_eq_true -> Bc, or_eq_true -> Bd, or_eq_false_iff -> Be
open Int renaming ofNat_lt -> Ia, ofNat_le -> Ib, not_lt -> Ic, not_le -> Ie
open Decidable renaming not_not -> Da
set_option maxRecDepth 100000

def atI (list : List (List Int)) (c : List Int) : Int:=if plI list c < list.length∧list.getD (plI list c) []=c then (plI list c : Nat) else -1
theorem atI_mem {list : List (List Int)} {c : List Int} (hs : Srt list) (sc : Sm c) : decide (0<=atI list c)=decide (c ∈ list):=by
 apply decide_eq_decide.2
 unfold atI
 split
 . rename_i h
   exact ⟨fun _ => by rw [← h.2]; exact getD_mem h.1,fun _ => by omega⟩
 . rename_i h
   refine ⟨fun h' => by omega,fun hm => ?_⟩
   exfalso
   apply h
   have hat:=plI_at hs sc
   obtain ⟨j,hj,rfl⟩:=mem_getD ([] : List Int) hm
   generalize hk : plI list (list.getD j [])=k at *
   have hjk : ¬ j < k:=fun hl => by
    have:=hat.lo j hl
    rw [befI_self sc] at this
    cases this
   refine ⟨by omega,?_⟩
   rcases Nat.lt_or_ge k j with hl | hl
   . have h1:=srt_get hs hl hj
     rw [hat.hi k (Nat.le_refl _) (by omega)] at h1
     cases h1
   . rw [show k=j by omega]
theorem l2At_ok (list : List (List Int)) (c : List Int) (hl : list.length<=4294967296) (hc : c.length<=4294967296) (sc : Sm c) (hx : ∀ x ∈ list,x.length<=4294967296) (hs : Srt list) :
 Ctr Try.prog 217 [.slice (list.map D.ints),.ints c] false (.d (.int .i64 (atI list c))) []:=by
 have hat:=plI_at hs sc
 have c1:=l2Place_ok list c (plI list c) hl hc sc (fun x h => ⟨hx x h,hs.2 x h⟩) hat
 have hkl:=hat.le
 have hkt : ((plI list c : Nat) : Int).toNat=plI list c:=by omega
 unfold atI
 generalize plI list c=k at *
 by_cases hlt : k < list.length
 . have c2:=l1Same_ok (list.getD k []) c (hx _ (getD_mem (z:=([] : List Int)) hlt))
   refine Ctr.of (n:=22) (rs:=[.tmp 4]) Try.func217 rfl rfl Try.ntmps217 rfl rfl (by kernel_rfl) Try.checked.mixed ?_
   simp (disch:=first | omega | decide +kernel) only [go_sem,Qa,Qb,Qc,Qd,Qe,↓reduceIte,reduceCtorEq,Qf,Qg,Qh]
   (repeat' (first | ((first | (refine gsel_split (fun q' => ?_) (fun q' => ?_)<;>(have h':=q')<;>(try simp only [za1,za2,Ba,Bb,za3,ne_eq,za4,za5,za6,Ia,Ib,Ic,Ie,Da,Bc,Bd,Be,za7,za8] at h')) | (have q':=trivial; first | refine callX_new (c1) rfl (by decide) ?_ | refine callY_new (c1) rfl ?_ | refine callX_new (c2) rfl (by decide) ?_ | refine callY_new (c2) rfl ?_ | refine hE _ _ ret_ne ?_ | refine hE _ _ exit_ne ?_))<;>(try simp (disch:=first | omega | decide +kernel) only [q',D.ints,go_sem,Qa,Qb,Qc,Qd,Qe,↓reduceIte,reduceCtorEq,Qf,Qg,Qh])<;>clear q') | refine hN _ ?_ ?_ Wk.kk | with_reducible refine And.intro ?_ ?_ | with_reducible omega | exact ok_ints | exact cells_ints | exact no_mem | with_reducible exact plain_ints | (refine le_maxLen ?_; omega) | (refine za9 ⟨?_,?_⟩) | (simp only [go_sem,Qc,Qb,zb1,zb2,forall_eq]; done)))
   . rw [if_pos ⟨hlt,h'⟩]
   . rw [if_neg fun h => h' h.2]
 . refine Ctr.of (n:=22) (rs:=[.tmp 4]) Try.func217 rfl rfl Try.ntmps217 rfl rfl (by kernel_rfl) Try.checked.mixed ?_
   simp (disch:=first | omega | decide +kernel) only [go_sem,Qa,Qb,Qc,Qd,Qe,↓reduceIte,reduceCtorEq,Qf,Qg,Qh]
   (repeat' (first | ((first | (refine gsel_split (fun q' => ?_) (fun q' => ?_)<;>(have h':=q')<;>(try simp only [za1,za2,Ba,Bb,za3,ne_eq,za4,za5,za6,Ia,Ib,Ic,Ie,Da,Bc,Bd,Be,za7,za8] at h')) | (have q':=trivial; first | refine callX_new (c1) rfl (by decide) ?_ | refine callY_new (c1) rfl ?_ | refine hE _ _ ret_ne ?_ | refine hE _ _ exit_ne ?_))<;>(try simp (disch:=first | omega | decide +kernel) only [q',D.ints,go_sem,Qa,Qb,Qc,Qd,Qe,↓reduceIte,reduceCtorEq,Qf,Qg,Qh])<;>clear q') | refine hN _ ?_ ?_ Wk.kk | with_reducible refine And.intro ?_ ?_ | with_reducible omega | exact ok_ints | exact cells_ints | exact no_mem | with_reducible exact plain_ints | (refine le_maxLen ?_; omega) | (refine za9 ⟨?_,?_⟩) | (simp only [go_sem,Qc,Qb,zb1,zb2,forall_eq]; done)))
   rw [if_neg fun h => hlt h.1]
end Abs.Y

namespace Abs.Y
open Go Go.Proofs Abs
open Nat renaming reduceEqDiff -> Qa, reduceLT -> Qb, reduceAdd -> Qc, reduceMul -> Qd, reduceSub -> Qe, reduceLeDiff -> Qf, reduceSubDiff -> Qg, reduceBEq -> Qh
open Bool renaming not_eq_true' -> Ba, not_eq_false' -> Bb, and_eq_true -> Bc, or_eq_true -> Bd, or_eq_false_iff -> Be
open Int renaming ofNat_lt -> Ia, ofNat_le -> Ib, not_lt -> Ic, not_le -> Ie
open Decidable renaming not_not -> Da
set_option maxRecDepth 100000

def G6 (c : List Int) : Prop:=Good c∧∀ x ∈ c,x.natAbs<=6
def bitOf (l : Int) : Nat:=if 0 < l then (l - 1).toNat else (5 - l).toNat
theorem bitOf_lt {l : Int} (h0 : l ≠ 0) (h : l.natAbs<=6) : bitOf l < 12:=by unfold bitOf; split<;>omega
theorem bitOf_inj {l k : Int} (h0 : l ≠ 0) (h : l.natAbs<=6) (k0 : k ≠ 0) (hk : k.natAbs<=6) (e : bitOf l=bitOf k) : l=k:=by
 unfold bitOf at e; split at e<;>split at e<;>omega
def mkN (c : List Int) : Nat:=c.foldl (fun m l => m ||| 2 ^ bitOf l) 0
theorem mkF_bit : ∀ (c : List Int) (m i : Nat),(c.foldl (fun m l => m ||| 2 ^ bitOf l) m).testBit i=(m.testBit i || c.any fun l => bitOf l == i)
 | [],m,i => by simp
 | l :: r, m, i => by
   rw [List.foldl_cons,mkF_bit r,Nat.testBit_or,List.any_cons,Nat.testBit_two_pow,Bool.or_assoc]
   rfl
theorem mkN_bit (c : List Int) (i : Nat) : (mkN c).testBit i=c.any fun l => bitOf l == i:=by
 rw [mkN,mkF_bit,Nat.zero_testBit,Bool.false_or]
theorem mkN_has {c : List Int} (g : G6 c) {l : Int} (h0 : l ≠ 0) (h : l.natAbs<=6) : (mkN c).testBit (bitOf l)=true↔l ∈ c:=by
 rw [mkN_bit,List.any_eq_true]
 constructor
 . rintro ⟨x,hx,e⟩
   rw [beq_iff_eq] at e
   have:=bitOf_inj ((g.1.2 x hx).1) (g.2 x hx) h0 h e
   rwa [← this]
 . exact fun hx => ⟨l,hx,by simp⟩
theorem mkN_lt {c : List Int} (g : G6 c) : mkN c < 4096:=by
 refine Nat.lt_pow_two_of_testBit (n:=12) _ fun i hi => ?_
 rw [mkN_bit,List.any_eq_false]
 intro x hx e
 rw [beq_iff_eq] at e
 have:=bitOf_lt (g.1.2 x hx).1 (g.2 x hx)
 omega
theorem mkN_inj {a b : List Int} (ga : G6 a) (gb : G6 b) (e : mkN a=mkN b) : a=b:=by
 refine good_uniq ga.1 gb.1 fun x => ?_
 constructor
 . intro hx
   have h0:=(ga.1.2 x hx).1
   have h1:=ga.2 x hx
   exact (mkN_has gb h0 h1).1 (e ▸ (mkN_has ga h0 h1).2 hx)
 . intro hx
   have h0:=(gb.1.2 x hx).1
   have h1:=gb.2 x hx
   exact (mkN_has ga h0 h1).1 (e ▸ (mkN_has gb h0 h1).2 hx)
def swN (m : Nat) : Nat:=(m &&& 63) <<< 6 ||| m >>> 6
def clN (a b : Nat) : Nat:=a &&& swN b
def boN (a b : Nat) : Nat:=(clN a b ||| clN a b >>> 6) &&& 63
def oneN (m : Nat) : Bool:=m != 0 && (m &&& (m - 1)) == 0
theorem bit63 (i : Nat) : (63 : Nat).testBit i=decide (i < 6):=Nat.testBit_two_pow_sub_one 6 i
theorem clN_bit (a b i : Nat) : (clN a b).testBit i=(a.testBit i && ((decide (6<=i) && (b.testBit (i - 6) && decide (i - 6 < 6))) || b.testBit (6 + i))):=by
 simp only [clN,swN,Nat.testBit_and,Nat.testBit_or,Nat.testBit_shiftLeft,Nat.testBit_shiftRight,bit63,ge_iff_le]
theorem boN_bit (a b i : Nat) : (boN a b).testBit i=(decide (i < 6) && ((a.testBit i && b.testBit (6 + i)) || (a.testBit (6 + i) && (b.testBit i || b.testBit (6 + (6 + i)))))):=by
 simp only [boN,Nat.testBit_and,Nat.testBit_or,Nat.testBit_shiftRight,bit63,clN_bit]
 by_cases h : i < 6
 . rw [decide_eq_true h,Bool.and_true,Bool.true_and,show decide (6<=i)=false from decide_eq_false (by omega),show decide (6<=6 + i)=true from decide_eq_true (by omega),show 6 + i - 6=i by omega,decide_eq_true h]
   simp
 . rw [decide_eq_false h]; simp
def Clash (a b : List Int) (v : Int) : Prop:=(v ∈ a∧-v ∈ b)∨(-v ∈ a∧v ∈ b)
theorem boN_clash {a b : List Int} (ga : G6 a) (gb : G6 b) {i : Nat} (hi : i < 6) : (boN (mkN a) (mkN b)).testBit i=true↔Clash a b ((i : Int) + 1):=by
 have e1 : bitOf ((i : Int) + 1)=i:=by unfold bitOf; rw [if_pos (by omega)]; omega
 have e2 : bitOf (-((i : Int) + 1))=6 + i:=by unfold bitOf; rw [if_neg (by omega)]; omega
 have hh : (mkN b).testBit (6 + (6 + i))=false:=by
  rw [mkN_bit,List.any_eq_false]
  intro x hx e
  rw [beq_iff_eq] at e
  have:=bitOf_lt (gb.1.2 x hx).1 (gb.2 x hx)
  omega
 have a1:=mkN_has ga (l:=(i : Int) + 1) (by omega) (by omega)
 have a2:=mkN_has ga (l:=-((i : Int) + 1)) (by omega) (by omega)
 have b1:=mkN_has gb (l:=(i : Int) + 1) (by omega) (by omega)
 have b2:=mkN_has gb (l:=-((i : Int) + 1)) (by omega) (by omega)
 rw [e1] at a1 b1
 rw [e2] at a2 b2
 rw [boN_bit,hh,decide_eq_true hi,Bool.true_and,Bool.or_false,Bd,Bc,Bc,a1,a2,b1,b2]
 rfl
theorem boN_lt (a b : Nat) : boN a b < 64:=Nat.lt_of_le_of_lt Nat.and_le_right (by omega)
theorem one_small : ∀ m,m < 64->(oneN m=true↔∃ i,i < 6∧m=2 ^ i):=by decide +kernel
theorem one_iff {m : Nat} (h : m < 64) : oneN m=true↔∃ i,i < 6∧m.testBit i=true∧∀ j,j < 6->m.testBit j=true->j=i:=by
 rw [one_small m h]
 constructor
 . rintro ⟨i,hi,rfl⟩
   exact ⟨i,hi,by simp,fun j _ hj => by rw [Nat.testBit_two_pow] at hj; simpa using (of_decide_eq_true hj).symm⟩
 . rintro ⟨i,hi,h1,h2⟩
   refine ⟨i,hi,Nat.eq_of_testBit_eq fun j => ?_⟩
   rw [Nat.testBit_two_pow]
   by_cases hj : j < 6
   . cases hb : m.testBit j with
     | true => rw [h2 j hj hb]; simp
     | false =>
       have : i ≠ j:=by rintro rfl; rw [h1] at hb; cases hb
       simp [this]
   . have : m.testBit j=false:=Nat.testBit_lt_two_pow (Nat.lt_of_lt_of_le h (by have:=Nat.pow_le_pow_right (n:=2) (by omega) (show 6<=j by omega); omega))
     rw [this,decide_eq_false (by omega)]
theorem neg_sm {v : Int} (h : 1<=v∧v<=12) : IntKind.i64.wrap (0 - v)=-v:=by rw [wrap_of (by omega)]; omega
theorem varI_sm {x : Int} (h : x.natAbs<=12) : varI x=x.natAbs:=varI_eq (by omega)
theorem resolveI_some {a b c : List Int} (ga : G6 a) (gb : G6 b) {v : Int} (hv : 1<=v) (h : resolveI a b v=some c) :
 v<=6∧v ∈ a∧-v ∈ b∧G6 c∧(∀ x,x ∈ c↔(x ∈ a∨x ∈ b)∧x.natAbs ≠ v.natAbs)∧∀ y,y ≠ v->1<=y->¬ Clash a b y:=by
 unfold resolveI at h
 split at h
 . rename_i h1
   rw [Bc] at h1
   have hva:=any_eq.1 h1.1
   have hv6 : v<=6:=by have:=ga.2 v hva; omega
   have hvb:=any_eq.1 h1.2
   rw [neg_sm ⟨hv,by omega⟩] at hvb
   have hmem : ∀ {z : List Int},G6 z->∀ x,(x ∈ z.filter fun l => varI l != v)↔x ∈ z∧x.natAbs ≠ v.natAbs:=fun gz x => by
    rw [List.mem_filter]
    refine and_congr_right fun hx => ?_
    have:=gz.2 x hx
    rw [bne_iff_ne,varI_sm (by omega)]
    omega
   have gfa : Good (a.filter fun l => varI l != v):=good_filter ga.1 _
   have hfb : ∀ x ∈ b.filter fun l => varI l != v,x ≠ 0∧x.natAbs<=12:=fun x hx => gb.1.2 x (List.mem_filter.1 hx).1
   obtain ⟨g,hm⟩:=(joinI_spec gfa hfb).1 c h
   have hm' : ∀ x,x ∈ c↔(x ∈ a∨x ∈ b)∧x.natAbs ≠ v.natAbs:=fun x => by
    rw [hm,hmem ga,hmem gb]
    constructor
    . rintro (⟨h,h'⟩ | ⟨h,h'⟩)
      . exact ⟨.inl h,h'⟩
      . exact ⟨.inr h,h'⟩
    . rintro ⟨h | h,h'⟩
      . exact .inl ⟨h,h'⟩
      . exact .inr ⟨h,h'⟩
   refine ⟨hv6,hva,hvb,⟨g,fun x hx => ?_⟩,hm',fun y hy hy1 hc => ?_⟩
   . rcases ((hm' x).1 hx).1 with h | h
     . exact ga.2 x h
     . exact gb.2 x h
   . have hyv : y.natAbs ≠ v.natAbs:=by omega
     have hyv' : (-y).natAbs ≠ v.natAbs:=by omega
     rcases hc with ⟨h1,h2⟩ | ⟨h1,h2⟩
     . exact good_neg g ((hm' y).2 ⟨.inl h1,hyv⟩) ((hm' (-y)).2 ⟨.inr h2,hyv'⟩)
     . exact good_neg g ((hm' y).2 ⟨.inr h2,hyv⟩) ((hm' (-y)).2 ⟨.inl h1,hyv'⟩)
 . cases h
theorem resolveI_ex {a b : List Int} (ga : G6 a) (gb : G6 b) {v : Int} (hv : 1<=v) (ha : v ∈ a) (hb : -v ∈ b) (hc : ∀ y,y ≠ v->1<=y->¬ Clash a b y) : ∃ c,resolveI a b v=some c:=by
 have hv6 : v<=6:=by have:=ga.2 v ha; omega
 cases h : resolveI a b v with
 | some c => exact ⟨c,rfl⟩
 | none =>
   exfalso
   unfold resolveI at h
   rw [if_pos (by rw [Bc]; exact ⟨any_eq.2 ha,any_eq.2 (by rw [neg_sm ⟨hv,by omega⟩]; exact hb)⟩)] at h
   have gfa : Good (a.filter fun l => varI l != v):=good_filter ga.1 _
   have gfb : Good (b.filter fun l => varI l != v):=good_filter gb.1 _
   obtain ⟨x,h1,h2⟩:=(joinI_spec gfa gfb.2).2 h
   have hmem : ∀ {z : List Int},G6 z->∀ x,(x ∈ z.filter fun l => varI l != v)->x ∈ z∧x.natAbs ≠ v.natAbs∧x ≠ 0:=fun gz x hx => by
    obtain ⟨h3,h4⟩:=List.mem_filter.1 hx
    have:=gz.2 x h3
    rw [bne_iff_ne,varI_sm (by omega)] at h4
    exact ⟨h3,by omega,(gz.1.2 x h3).1⟩
   have key : ∀ x : Int,x ∈ a->-x ∈ b->x.natAbs ≠ v.natAbs->x ≠ 0->False:=fun x h3 h4 h5 h6 => by
    by_cases hx : 0 < x
    . exact hc x (by omega) (by omega) (.inl ⟨h3,h4⟩)
    . exact hc (-x) (by omega) (by omega) (.inr ⟨by rwa [Int.neg_neg],h4⟩)
   rcases h1 with h1 | h1<;>rcases h2 with h2 | h2
   . exact good_neg gfa h1 h2
   . obtain ⟨h3,h4,h5⟩:=hmem ga x h1
     obtain ⟨h6,_,_⟩:=hmem gb _ h2
     exact key x h3 h6 h4 h5
   . obtain ⟨h3,h4,h5⟩:=hmem gb x h1
     obtain ⟨h6,_,_⟩:=hmem ga _ h2
     exact key (-x) h6 (by rwa [Int.neg_neg]) (by omega) (by omega)
   . exact good_neg gfb h1 h2
theorem clash_comm {a b : List Int} {v : Int} : Clash a b v↔Clash b a v:=by
 unfold Clash
 constructor
 . rintro (⟨h,h'⟩ | ⟨h,h'⟩)
   . exact .inr ⟨h',h⟩
   . exact .inl ⟨h',h⟩
 . rintro (⟨h,h'⟩ | ⟨h,h'⟩)
   . exact .inr ⟨h',h⟩
   . exact .inl ⟨h',h⟩
theorem mask_res {a b : List Int} (ga : G6 a) (gb : G6 b) : oneN (boN (mkN a) (mkN b))=true↔∃ c v,1<=v∧(resolveI a b v=some c∨resolveI b a v=some c):=by
 rw [one_iff (boN_lt _ _)]
 constructor
 . rintro ⟨i,hi,h1,h2⟩
   have hcl:=(boN_clash ga gb hi).1 h1
   have hno : ∀ y,y ≠ (i : Int) + 1->1<=y->¬ Clash a b y:=fun y hy hy1 hc => by
    have hy6 : y<=6:=by
     rcases hc with ⟨h,_⟩ | ⟨_,h⟩
     . have:=ga.2 y h; omega
     . have:=gb.2 y h; omega
    have:=h2 (y - 1).toNat (by omega) ((boN_clash ga gb (by omega)).2 (by rw [show (((y - 1).toNat : Nat) : Int) + 1=y by omega]; exact hc))
    omega
   rcases hcl with ⟨h3,h4⟩ | ⟨h3,h4⟩
   . obtain ⟨c,hc⟩:=resolveI_ex ga gb (by omega) h3 h4 hno
     exact ⟨c,_,by omega,.inl hc⟩
   . obtain ⟨c,hc⟩:=resolveI_ex gb ga (by omega) h4 h3 fun y h5 h6 h7 => hno y h5 h6 (clash_comm.1 h7)
     exact ⟨c,_,by omega,.inr hc⟩
 . rintro ⟨c,v,hv,h⟩
   have key : v<=6∧Clash a b v∧∀ y,y ≠ v->1<=y->¬ Clash a b y:=by
    rcases h with h | h
    . obtain ⟨h1,h2,h3,_,_,h6⟩:=resolveI_some ga gb hv h
      exact ⟨h1,.inl ⟨h2,h3⟩,h6⟩
    . obtain ⟨h1,h2,h3,_,_,h6⟩:=resolveI_some gb ga hv h
      exact ⟨h1,.inr ⟨h3,h2⟩,fun y h7 h8 h9 => h6 y h7 h8 (clash_comm.1 h9)⟩
   obtain ⟨h6,h7,h8⟩:=key
   refine ⟨(v - 1).toNat,by omega,(boN_clash ga gb (by omega)).2 (by rw [show (((v - 1).toNat : Nat) : Int) + 1=v by omega]; exact h7),fun j hj hb => ?_⟩
   have hc:=(boN_clash ga gb hj).1 hb
   by_cases e : (j : Int) + 1=v
   . omega
   . exact absurd hc (h8 _ e (by omega))
theorem mask_bo {a b c : List Int} (ga : G6 a) (gb : G6 b) {v : Int} (hv : 1<=v) (h : resolveI a b v=some c∨resolveI b a v=some c) : boN (mkN a) (mkN b)=2 ^ (v - 1).toNat:=by
 have key : v<=6∧Clash a b v∧∀ y,y ≠ v->1<=y->¬ Clash a b y:=by
  rcases h with h | h
  . obtain ⟨h1,h2,h3,_,_,h6⟩:=resolveI_some ga gb hv h
    exact ⟨h1,.inl ⟨h2,h3⟩,h6⟩
  . obtain ⟨h1,h2,h3,_,_,h6⟩:=resolveI_some gb ga hv h
    exact ⟨h1,.inr ⟨h3,h2⟩,fun y h7 h8 h9 => h6 y h7 h8 (clash_comm.1 h9)⟩
 obtain ⟨h6,h7,h8⟩:=key
 refine Nat.eq_of_testBit_eq fun j => ?_
 rw [Nat.testBit_two_pow]
 by_cases hj : j < 6
 . by_cases e : (j : Int) + 1=v
   . rw [(boN_clash ga gb hj).2 (e ▸ h7),decide_eq_true (by omega)]
   . rw [decide_eq_false (by omega)]
     cases hb : (boN (mkN a) (mkN b)).testBit j with
     | false => rfl
     | true => exact absurd ((boN_clash ga gb hj).1 hb) (h8 _ e (by omega))
 . rw [boN_bit,decide_eq_false hj,decide_eq_false (by omega)]; rfl
def outN (a b k : Nat) : Nat:=(a ||| b) &&& (4095 ^^^ (k ||| k <<< 6))
theorem mask_out {a b c : List Int} (ga : G6 a) (gb : G6 b) {v : Int} (hv : 1<=v) (h : resolveI a b v=some c∨resolveI b a v=some c) : outN (mkN a) (mkN b) (boN (mkN a) (mkN b))=mkN c:=by
 rw [mask_bo ga gb hv h]
 have key : v<=6∧G6 c∧∀ x,x ∈ c↔(x ∈ a∨x ∈ b)∧x.natAbs ≠ v.natAbs:=by
  rcases h with h | h
  . obtain ⟨h1,_,_,h4,h5,_⟩:=resolveI_some ga gb hv h
    exact ⟨h1,h4,h5⟩
  . obtain ⟨h1,_,_,h4,h5,_⟩:=resolveI_some gb ga hv h
    exact ⟨h1,h4,fun x => by rw [h5,or_comm]⟩
 obtain ⟨hv6,gc,hm⟩:=key
 refine Nat.eq_of_testBit_eq fun j => ?_
 have h4095 : (4095 : Nat).testBit j=decide (j < 12):=Nat.testBit_two_pow_sub_one 12 j
 by_cases hj : j < 12
 . -- the literal of bit j
   obtain ⟨l,hl0,hl6,rfl⟩ : ∃ l : Int,l ≠ 0∧l.natAbs<=6∧bitOf l=j:=by
    by_cases h6 : j < 6
    . exact ⟨(j : Int) + 1,by omega,by omega,by unfold bitOf; rw [if_pos (by omega)]; omega⟩
    . exact ⟨5 - (j : Int),by omega,by omega,by unfold bitOf; rw [if_neg (by omega)]; omega⟩
   have e : (outN (mkN a) (mkN b) (2 ^ (v - 1).toNat)).testBit (bitOf l)=true↔(mkN c).testBit (bitOf l)=true:=by
    rw [mkN_has gc hl0 hl6,hm]
    unfold outN
    rw [Nat.testBit_and,Nat.testBit_or,Nat.testBit_xor,h4095,decide_eq_true hj,Nat.testBit_or,Nat.testBit_shiftLeft,Nat.testBit_two_pow,Nat.testBit_two_pow,Bc,Bd,mkN_has ga hl0 hl6,mkN_has gb hl0 hl6]
    refine and_congr_right fun _ => ?_
    have hb : bitOf l=if 0 < l then (l - 1).toNat else (5 - l).toNat:=rfl
    by_cases hvl : l.natAbs=v.natAbs
    . simp only [hvl,ne_eq,not_true,iff_false]
      by_cases hl : 0 < l
      . rw [if_pos hl] at hb
        rw [hb,decide_eq_true (show (v - 1).toNat=(l - 1).toNat by omega)]; simp
      . rw [if_neg hl] at hb
        rw [hb,decide_eq_true (show (v - 1).toNat=(5 - l).toNat - 6 by omega),decide_eq_true (show (5 - l).toNat ≥ 6 by omega)]; simp
    . simp only [ne_eq,hvl,not_false_eq_true,iff_true]
      by_cases hl : 0 < l
      . rw [if_pos hl] at hb
        rw [hb,decide_eq_false (show ¬ (v - 1).toNat=(l - 1).toNat by omega),decide_eq_false (show ¬ (l - 1).toNat ≥ 6 by omega)]; rfl
      . rw [if_neg hl] at hb
        rw [hb,decide_eq_false (show ¬ (v - 1).toNat=(5 - l).toNat by omega),decide_eq_false (show ¬ (v - 1).toNat=(5 - l).toNat - 6 by omega)]; simp
   cases h1 : (outN (mkN a) (mkN b) (2 ^ (v - 1).toNat)).testBit (bitOf l)<;>cases h2 : (mkN c).testBit (bitOf l)<;>simp_all
 . have h1 : (mkN c).testBit j=false:=Nat.testBit_lt_two_pow (Nat.lt_of_lt_of_le (mkN_lt gc) (by have:=Nat.pow_le_pow_right (n:=2) (by omega) (show 12<=j by omega); omega))
   have h2 : (mkN a).testBit j=false:=Nat.testBit_lt_two_pow (Nat.lt_of_lt_of_le (mkN_lt ga) (by have:=Nat.pow_le_pow_right (n:=2) (by omega) (show 12<=j by omega); omega))
   have h3 : (mkN b).testBit j=false:=Nat.testBit_lt_two_pow (Nat.lt_of_lt_of_le (mkN_lt gb) (by have:=Nat.pow_le_pow_right (n:=2) (by omega) (show 12<=j by omega); omega))
   unfold outN
   rw [h1,Nat.testBit_and,Nat.testBit_or,h2,h3]; rfl
def pcN (m : Nat) : Nat:=((List.range 12).filter fun i => m.testBit i).length
theorem pc_step : ∀ m,m < 4096->m ≠ 0->pcN (m &&& (m - 1)) + 1=pcN m:=by decide +kernel
theorem pc_zero : pcN 0=0:=by decide
theorem mkN_pc {c : List Int} (g : G6 c) : pcN (mkN c)=c.length:=by
 have h1 : (c.map bitOf).Nodup:=by
  rw [List.Nodup,List.pairwise_map]
  refine List.Pairwise.imp_of_mem ?_ g.1.1
  intro x y hx hy hxy e
  have:=bitOf_inj (g.1.2 x hx).1 (g.2 x hx) (g.1.2 y hy).1 (g.2 y hy) e
  subst this; omega
 have h2 : ((List.range 12).filter fun i => (mkN c).testBit i).Perm (c.map bitOf):=by
  refine (List.perm_ext_iff_of_nodup (List.nodup_range.filter _) h1).2 fun i => ?_
  rw [List.mem_filter,List.mem_range,mkN_bit,List.any_eq_true,List.mem_map]
  constructor
  . rintro ⟨_,x,hx,e⟩
    exact ⟨x,hx,by simpa using e⟩
  . rintro ⟨x,hx,rfl⟩
    exact ⟨bitOf_lt (g.1.2 x hx).1 (g.2 x hx),x,hx,by simp⟩
 unfold pcN
 rw [h2.length_eq,List.length_map]
def clV (m : Nat) (v : Nat) : List Int:=(if m.testBit v=true then [(v : Int) + 1] else [])++(if m.testBit (6 + v)=true then [-((v : Int) + 1)] else [])
def clsN (m : Nat) : List Int:=(List.range 6).flatMap (clV m)
theorem mem_clV {m v : Nat} {x : Int} : x ∈ clV m v↔(x=(v : Int) + 1∧m.testBit v=true)∨(x=-((v : Int) + 1)∧m.testBit (6 + v)=true):=by
 unfold clV
 rw [List.mem_append]
 split<;>split<;>simp_all
theorem clsN_mkN {c : List Int} (g : G6 c) : clsN (mkN c)=c:=by
 have hb : ∀ v : Nat,v < 6->((mkN c).testBit v=true↔(v : Int) + 1 ∈ c)∧((mkN c).testBit (6 + v)=true↔-((v : Int) + 1) ∈ c):=fun v hv => by
  have h1:=mkN_has g (l:=(v : Int) + 1) (by omega) (by omega)
  have h2:=mkN_has g (l:=-((v : Int) + 1)) (by omega) (by omega)
  rw [show bitOf ((v : Int) + 1)=v by unfold bitOf; rw [if_pos (by omega)]; omega] at h1
  rw [show bitOf (-((v : Int) + 1))=6 + v by unfold bitOf; rw [if_neg (by omega)]; omega] at h2
  exact ⟨h1,h2⟩
 have hmem : ∀ x,x ∈ clsN (mkN c)↔x ∈ c:=fun x => by
  unfold clsN
  rw [List.mem_flatMap]
  constructor
  . rintro ⟨v,hv,hx⟩
    obtain ⟨h1,h2⟩:=hb v (List.mem_range.1 hv)
    rcases mem_clV.1 hx with ⟨rfl,h⟩ | ⟨rfl,h⟩
    . exact h1.1 h
    . exact h2.1 h
  . intro hx
    have h0:=(g.1.2 x hx).1
    have h6:=g.2 x hx
    refine ⟨x.natAbs - 1,List.mem_range.2 (by omega),mem_clV.2 ?_⟩
    obtain ⟨h1,h2⟩:=hb (x.natAbs - 1) (by omega)
    by_cases hp : 0 < x
    . refine .inl ⟨by omega,h1.2 ?_⟩
      rwa [show ((x.natAbs - 1 : Nat) : Int) + 1=x by omega]
    . refine .inr ⟨by omega,h2.2 ?_⟩
      rwa [show -(((x.natAbs - 1 : Nat) : Int) + 1)=x by omega]
 refine good_uniq ⟨?_,fun x hx => g.1.2 x ((hmem x).1 hx)⟩ g.1 hmem
 unfold clsN
 rw [List.pairwise_flatMap]
 refine ⟨fun v hv => ?_,?_⟩
 . obtain ⟨h1,h2⟩:=hb v (List.mem_range.1 hv)
   unfold clV
   split<;>split<;>simp
   . rename_i h3 h4
     exact good_neg g.1 (h1.1 h3) (h2.1 h4)
 . refine List.pairwise_lt_range.imp ?_
   intro v w hvw x hx y hy
   rcases mem_clV.1 hx with ⟨rfl,_⟩ | ⟨rfl,_⟩<;>rcases mem_clV.1 hy with ⟨rfl,_⟩ | ⟨rfl,_⟩<;>omega
end Abs.Y

namespace Abs
open Go Go.RowKit

def bitI (b k : Nat) : Int:=if b.testBit k then 1 else 0
end Abs

namespace Abs
open Go Go.RowKit
theorem wrap16 {a : Nat} (h : a < 65536) : IntKind.wrap .u16 (a : Int)=(a : Int):=by
 simp [IntKind.wrap,IntKind.bits,IntKind.signed]; omega
theorem wrap16' {a : Int} (h : 0<=a∧a < 65536) : IntKind.wrap .u16 a=a:=by
 simp [IntKind.wrap,IntKind.bits,IntKind.signed]; omega
theorem ofInt16 (a : Nat) : BitVec.ofInt 16 (a : Int)=BitVec.ofNat 16 a:=by
 apply BitVec.eq_of_toNat_eq; simp [BitVec.toNat_ofInt]
theorem and16 {a b : Nat} (ha : a < 65536) (hb : b < 65536) : bitV .and .u16 a b=((a &&& b : Nat) : Int):=by
 have h : a &&& b < 65536:=Nat.and_lt_two_pow (n:=16) _ hb
 show IntKind.wrap .u16 (((BitVec.ofInt 16 (a : Int)) &&& (BitVec.ofInt 16 (b : Int))).toNat : Nat)=_
 rw [ofInt16,ofInt16,BitVec.toNat_and,BitVec.toNat_ofNat,BitVec.toNat_ofNat,Nat.mod_eq_of_lt (by omega),Nat.mod_eq_of_lt (by omega),wrap16 h]
theorem or16 {a b : Nat} (ha : a < 65536) (hb : b < 65536) : bitV .or .u16 a b=((a ||| b : Nat) : Int):=by
 have h : a ||| b < 65536:=Nat.or_lt_two_pow (n:=16) ha hb
 show IntKind.wrap .u16 (((BitVec.ofInt 16 (a : Int)) ||| (BitVec.ofInt 16 (b : Int))).toNat : Nat)=_
 rw [ofInt16,ofInt16,BitVec.toNat_or,BitVec.toNat_ofNat,BitVec.toNat_ofNat,Nat.mod_eq_of_lt (by omega),Nat.mod_eq_of_lt (by omega),wrap16 h]
theorem andNot16 {a b : Nat} (ha : a < 4096) (hb : b < 65536) : bitV .andNot .u16 a b=((a &&& (4095 ^^^ b) : Nat) : Int):=by
 have h : a &&& (4095 ^^^ b) < 65536:=Nat.lt_of_le_of_lt Nat.and_le_left (by omega)
 show IntKind.wrap .u16 (((BitVec.ofInt 16 (a : Int)) &&& ~~~ (BitVec.ofInt 16 (b : Int))).toNat : Nat)=_
 have e : ((BitVec.ofInt 16 (a : Int)) &&& ~~~ (BitVec.ofInt 16 (b : Int))).toNat=a &&& (4095 ^^^ b):=by
  rw [ofInt16,ofInt16]
  apply Nat.eq_of_testBit_eq
  intro i
  rw [BitVec.testBit_toNat,BitVec.getLsbD_and,BitVec.getLsbD_not,BitVec.getLsbD_ofNat,BitVec.getLsbD_ofNat,Nat.testBit_and,Nat.testBit_xor,show (4095 : Nat).testBit i=decide (i < 12) from Nat.testBit_two_pow_sub_one 12 i]
  by_cases h12 : i < 12
  . simp [h12,show i < 16 by omega]
  . have : a.testBit i=false:=Nat.testBit_lt_two_pow (Nat.lt_of_lt_of_le ha (by have:=Nat.pow_le_pow_right (n:=2) (by omega) (show 12<=i by omega); omega))
    simp [this]
 rw [e,wrap16 h]
theorem shl16 {a e : Nat} (he : e<=16) (h : a * 2 ^ e < 65536) : IntKind.wrap .u16 ((a : Int) * 2 ^ min e 16)=((a <<< e : Nat) : Int):=by
 rw [show min e 16=e by omega]
 have e1 : (a : Int) * (2 : Int) ^ e=((a * 2 ^ e : Nat) : Int):=by simp
 rw [e1,wrap16 h,Nat.shiftLeft_eq]
theorem shr16 {b e : Nat} (he : e<=16) : (b : Int).fdiv (2 ^ min e 16)=((b >>> e : Nat) : Int):=by
 rw [show min e 16=e by omega]
 have e1 : ((2 : Int) ^ e)=((2 ^ e : Nat) : Int):=by simp
 rw [e1,Nat.shiftRight_eq_div_pow]
 rw [Int.fdiv_eq_ediv_of_nonneg _ (Int.natCast_nonneg _)]; simp
end Abs
