/- What functions of this program compute, over plain data. No condition. -/
import Derived.Test.YtkccabajcdphkaaGreatK8
import Derived.Test.YtkccabajcdphkaaGreatPM5
import Derived.Test.YtkccabajcdphkaaGreatK2
import Derived.Test.YtkccabajcdphkaaGreatChecked
import Derived.Shelf.SlSortCmp.Whole1
import Derived.Shelf.SlicesE.DeleteFunc
import Derived.Shelf.Slices.CompactI
import Derived.Shelf.Spec.SlicesGrow
import Derived.Shelf.SlicesG.Cmp
import Derived.Shelf.Lay
import Derived.LoopN
import Derived.Deep.RegionWith
import Derived.Ground.SlsfProg
import Derived.Ground.SlgfProg
import Derived.Ground.SlgcProg
import Derived.Ground.Names2Prog
import Derived.Ground.Names8Prog
import Derived.Test.YtkccabajcdphkaaGreatAbsBox
import Derived.Shelf.SlSortCmp.NoneTotal
import Derived.Lib.RowBridge
set_option linter.all false
open Nat renaming reduceEqDiff -> Qa, reduceLT -> Qb, reduceAdd -> Qc, reduceMul -> Qd, reduceSub -> Qe, reduceLeDiff -> Qf, reduceSubDiff -> Qg, reduceBEq -> Qh
open Bool renaming not_eq_true' -> Ba, not_eq_false' -> Bb, and_eq_true -> Bc, or_eq_true -> Bh, or_eq_false_iff -> Be
open Int renaming ofNat_lt -> Ia, ofNat_le -> Ib, not_lt -> Ic, not_le -> Ie
open Decidable renaming not_not -> Da
namespace Abs.Y
open Go Go.Proofs Abs
set_option maxRecDepth 100000

theorem yi2 {g : Chg} {v k : Nat} : ((k : Int) ∈ xb0 g v)↔k < g.ed.length∧atB g v k=true:=by
 rw [xk5,zi7,Int.toNat_natCast]
 constructor
 . rintro ⟨_,h,h2 | h2⟩
   . exact ⟨h,.inl h2.symm⟩
   . exact ⟨h,.inr h2.symm⟩
 . rintro ⟨h,h2 | h2⟩
   . exact ⟨by omega,h,.inl h2.symm⟩
   . exact ⟨by omega,h,.inr h2.symm⟩
theorem par_c {g : Chg} (hg : GoodP g) (c : Nat->Bool) (hc : ∀ e ∈ g.ed,c e.1.toNat=c e.2.toNat) (x : Nat) : rs g.n.toNat (fun i => if c i then eb g x i else 0) % 2=0:=by
 have e1 : rs g.n.toNat (fun i => if c i then eb g x i else 0)=rs g.n.toNat (fun i => rs g.ed.length ((fun i k => if c i && atB g i k then bitI x k else 0) i)):=xm3 _ fun i _ => by
  show (if c i=true then eb g x i else 0)=rs g.ed.length (fun k => if (c i && atB g i k)=true then bitI x k else 0)
  cases h : c i with
  | false =>
    simp only [Bool.false_and,Bool.false_eq_true,if_false]
    exact (rs_z _).symm
  | true => simp only [Bool.true_and,if_true]; rfl
 rw [e1,zg5]
 have key : ∀ m,m<=g.ed.length->rs m (fun k => rs g.n.toNat fun i => if (c i && atB g i k)=true then bitI x k else 0) % 2=0:=by
  intro m
  induction m with
  | zero => intro _; rfl
  | succ m ih =>
    intro hm
    rw [xf1]
    have h1:=ih (by omega)
    have hme:=xc0 (z:=((0 : Int),(0 : Int))) (show m < g.ed.length by omega)
    have he:=hg.e _ hme
    have hce:=hc _ hme
    have hat:=fun i : Nat => zi7 (g:=g) (v:=i) (k:=m)
    generalize g.ed.getD m (0,0)=e at *
    have h2 : ∀ i : Nat,i < g.n.toNat->i ≠ e.1.toNat->i ≠ e.2.toNat->(if (c i && atB g i m)=true then bitI x m else 0)=(fun _ => (0 : Int)) i:=fun i _ n1 n2 => by
     rw [if_neg]
     intro h
     rcases (hat i).1 (Bool.and_eq_true_iff.1 h).2 with h | h<;>omega
    have a1 : atB g e.1.toNat m=true:=(hat _).2 (.inl (by omega))
    have a2 : atB g e.2.toNat m=true:=(hat _).2 (.inr (by omega))
    have:=(zv5 (f:=fun i => if (c i && atB g i m)=true then bitI x m else 0) (g:=fun _ => 0) (a:=e.1.toNat) (b:=e.2.toNat) (by omega) (by
     simp only [a1,a2,Bool.and_true,hce]
     split<;>omega) _ h2).1 (by omega)
    rw [rs_z] at this
    omega
 exact key _ (Nat.le_refl _)
theorem zv6 {f h : Nat->Int} : ∀ n,(∀ i,i < n->(f i - h i) % 2=0)->(rs n f - rs n h) % 2=0
 | 0,_ => rfl
 | n + 1, hh => by
   rw [xf1,xf1]
   have:=zv6 n fun i hi => hh i (by omega)
   have:=hh n (by omega)
   omega
theorem zx7 {g : Chg} (hg : GoodP g) (c : Nat->Bool) (hc : ∀ e ∈ g.ed,c e.1.toNat=c e.2.toNat) (x : Nat) :
 (rs g.n.toNat (fun i => if c i && !(satV g x i) then 1 else 0) - rs g.n.toNat (fun i => if c i then g.ch.getD i 0 else 0)) % 2=0:=by
 have h1:=par_c hg c hc x
 have h2 : (rs g.n.toNat (fun i => if c i && !(satV g x i) then 1 else 0) - rs g.n.toNat (fun i => (if c i then g.ch.getD i 0 else 0) + if c i then eb g x i else 0)) % 2=0:=zv6 _ fun i hi => by
  cases h : c i with
  | false => simp
  | true =>
    simp only [Bool.true_and,if_true,satV]
    by_cases h3 : (g.ch.getD i 0 + eb g x i) % 2=0
    . rw [decide_eq_true h3]
      show ((0 : Int) - (g.ch.getD i 0 + eb g x i)) % 2=0
      omega
    . rw [decide_eq_false h3]
      show ((1 : Int) - (g.ch.getD i 0 + eb g x i)) % 2=0
      omega
 rw [zj9] at h2
 omega
theorem zx0 {g : Chg} (hg : GoodP g) (v : Nat) : ∀ e ∈ g.ed,xz9 g v e.1.toNat=xz9 g v e.2.toNat:=fun e he => by
 have h:=hg.e e he
 have e1 : ((e.1.toNat : Nat) : Int)=e.1:=by omega
 have e2 : ((e.2.toNat : Nat) : Int)=e.2:=by omega
 rw [Bool.eq_iff_iff,xo9,xo9,e1,e2]
 exact ⟨fun h => .step h (.inl he),fun h => .step h (.inr he)⟩
theorem odd_unsat {g : Chg} (hg : GoodP g) {v : Nat} (ho : rs g.n.toNat (ctS g v) % 2=1) (x : Nat) : satG g x=false:=by
 cases hs : satG g x with
 | false => rfl
 | true =>
   exfalso
   unfold satG at hs
   rw [List.all_eq_true] at hs
   have h:=zx7 hg (xz9 g v) (zx0 hg v) x
   have e1 : rs g.n.toNat (fun i => if xz9 g v i && !(satV g x i) then 1 else 0)=rs g.n.toNat (fun _ => 0):=xm3 _ fun i hi => by
    rw [hs i (List.mem_range.2 hi)]; simp
   rw [e1,rs_z] at h
   have e2 : rs g.n.toNat (fun i => if xz9 g v i then g.ch.getD i 0 else 0)=rs g.n.toNat (ctS g v):=rfl
   rw [e2] at h
   omega
theorem xt8 (b e k : Nat) : (b ||| 2 ^ e).testBit k=(b.testBit k || decide (e=k)):=by rw [Nat.testBit_or,Nat.testBit_two_pow]
theorem zg4 (g : Chg) (e : Nat) : ∀ (E : List (Int × Int)) (b : Nat),(∀ r ∈ E,r.2.toNat ≠ e)->(E.foldl (stO g) b).testBit e=b.testBit e
 | [],_,_ => rfl
 | r :: E, b, h => by
   rw [List.foldl_cons,zg4 g e E _ fun r' hr => h r' (.tail _ hr)]
   unfold stO
   split
   . rw [xt8,decide_eq_false (h r (.head _)),Bool.or_false]
   . rfl
theorem eb_congr {g : Chg} {x y v : Nat} (h : ∀ k,k < g.ed.length->atB g v k=true->x.testBit k=y.testBit k) : eb g x v=eb g y v:=xm3 _ fun k hk => by
 by_cases ha : atB g v k=true
 . simp only [if_pos ha,bitI,h k hk ha]
 . simp only [if_neg ha]
theorem sumW_eb (g : Chg) (b v : Nat) : sumW g b (xb0 g v)=eb g b v:=by
 have hf : ∀ (ks : List Int) (s : Int),ks.foldl (fun s k => s + bitI b k.toNat) s=s + (ks.map fun k => bitI b k.toNat).sum:=by
  intro ks
  induction ks with
  | nil => intro s; simp
  | cons k r ih => intro s; rw [List.foldl_cons,ih,List.map_cons,List.sum_cons]; omega
 unfold sumW
 rw [hf,Int.zero_add]
 unfold xb0 xg5
 rw [yc0 (atB g v) (fun k => bitI b k.toNat)]
 exact xm3 _ fun k _ => by rw [Int.toNat_natCast]
theorem eb_nn (g : Chg) (x v : Nat) : 0<=eb g x v:=yc4 _ fun k _ => by
 split
 . exact (by unfold bitI; split<;>omega)
 . omega
theorem yk7 {g : Chg} (hg : GoodP g) (b : Nat) {v : Nat} (hv : (v : Int) < g.n) : xv6 g v b=!(satV g b v):=by
 have h1:=hg.q v (by have:=hg.c; omega)
 have h2:=eb_nn g b v
 unfold xv6 satV
 rw [sumW_eb,Int.toNat_natCast,Int.tmod_eq_emod_of_nonneg (by omega)]
 by_cases h : (g.ch.getD v 0 + eb g b v) % 2=0
 . rw [decide_eq_true h,decide_eq_false (by omega)]; rfl
 . rw [decide_eq_false h,decide_eq_true (by omega)]; rfl
theorem eb_or {g : Chg} {x e : Nat} (hb : x.testBit e=false) (he : e < g.ed.length) (v : Nat) (ha : atB g v e=true) : eb g (x ||| 2 ^ e) v=eb g x v + 1:=by
 have h:=zq0 (f:=fun k => if atB g v k then bitI (x ||| 2 ^ e) k else 0) (g:=fun k => if atB g v k then bitI x k else 0) (a:=e) g.ed.length fun k _ hk => by
  simp only [bitI,xt8,decide_eq_false (fun h : e=_ => hk h.symm),Bool.or_false]
 have h0 : (if atB g v e=true then bitI (x ||| 2 ^ e) e else 0) - (if atB g v e=true then bitI x e else 0)=1:=by simp [ha,bitI,hb]
 rw [if_pos he] at h
 have h1:=h.trans h0
 unfold eb
 omega
theorem yv0 {g : Chg} (hg : GoodP g) : ∀ (E : List (Int × Int)) (b : Nat),(∀ r ∈ E,(0<=r.1∧r.1 < g.n)∧r.2 ∈ xb0 g r.1)->(E.map (·.2)).Nodup->(∀ r ∈ E,b.testBit r.2.toNat=false)->E.Pairwise (fun r r' => r'.2 ∉ xb0 g r.1) ->
 ∀ r ∈ E,satV g (E.foldl (stO g) b) r.1.toNat=true
 | [],_,_,_,_,_ => fun r hr => by cases hr
 | r :: E, b, h1, h2, h3, h4 => by
   obtain ⟨⟨hr0,hrn⟩,hre⟩:=h1 r (.head _)
   obtain ⟨hp,h4'⟩:=List.pairwise_cons.1 h4
   rw [List.map_cons,List.nodup_cons] at h2
   have hv : ((r.1.toNat : Nat) : Int)=r.1:=by omega
   have hE0 : ∀ r' ∈ r :: E,0<=r'.2:=fun r' hr' => (xk5.1 (h1 r' hr').2).1
   have hb1 : satV g (stO g b r) r.1.toNat=true:=by
    have hw:=yk7 hg b (v:=r.1.toNat) (by omega)
    rw [hv] at hw
    unfold stO
    cases hs : satV g b r.1.toNat with
    | true => rw [hw,hs]; exact hs
    | false =>
      rw [hw,hs,if_pos (by rfl)]
      have hme : r.2.toNat < g.ed.length∧atB g r.1.toNat r.2.toNat=true:=by
       refine yi2.1 ?_
       rw [hv,show ((r.2.toNat : Nat) : Int)=r.2 by have:=hE0 r (.head _); omega]; exact hre
      have:=eb_or (h3 r (.head _)) hme.1 _ hme.2
      unfold satV at hs ⊢
      rw [this]
      have hs:=of_decide_eq_false hs
      exact decide_eq_true (by omega)
   have hne : ∀ r' ∈ E,r'.2.toNat ≠ r.2.toNat:=fun r' hr' e => h2.1 (List.mem_map.2 ⟨r',hr',by
    have:=hE0 r' (.tail _ hr'); have:=hE0 r (.head _); omega⟩)
   rw [List.foldl_cons]
   intro x hx
   rcases List.mem_cons.1 hx with rfl | hx
   . have : eb g (E.foldl (stO g) (stO g b x)) x.1.toNat=eb g (stO g b x) x.1.toNat:=eb_congr fun k hk ha => zg4 g k E _ fun r' hr' e => hp r' hr' (by
      have:=yi2.2 ⟨hk,ha⟩
      rw [hv] at this
      have h0:=hE0 r' (.tail _ hr')
      rwa [show r'.2=(k : Int) by omega])
     unfold satV at hb1 ⊢
     rw [this]; exact hb1
   . refine yv0 hg E _ (fun r' hr' => h1 r' (.tail _ hr')) h2.2 (fun r' hr' => ?_) h4' x hx
     rw [show stO g b r=[r].foldl (stO g) b from rfl,zg4 g _ [r] b fun q hq => by rw [List.mem_singleton.1 hq]; exact fun e => hne r' hr' e.symm]
     exact h3 r' (.tail _ hr')
theorem seq_pw {g : Chg} (hg : xc7 g=true) : (seqI (xb7 g)).Pairwise (fun r r' => r'.2 ∉ xb0 g r.1):=by
 have hn:=(xf0.1 hg).n1
 have hl : xb7 g=((List.range g.n.toNat).filter (minB g)).map fun v : Nat => xh0 g v:=(xy8 hg g.n.toNat (by omega)).2
 unfold seqI
 rw [List.pairwise_flatMap]
 constructor
 . intro l hl'
   rw [hl] at hl'
   obtain ⟨v,hv,rfl⟩:=List.mem_map.1 hl'
   have hv:=List.mem_range.1 (List.mem_filter.1 hv).1
   obtain ⟨h1,h2,h3,h4⟩:=xn6 hg (v:=(v : Int)) (by omega)
   generalize xh0 g (v : Int)=l at *
   rw [List.pairwise_reverse,List.pairwise_iff_getElem]
   intro i j hi hj hij hc
   rw [List.getElem_drop,List.getElem_drop] at hc
   rw [List.length_drop] at hi hj
   have g1 : l.getD (1 + i) (0,0)=l[1 + i]'(by omega):=by simp [List.getD_eq_getElem?_getD,show 1 + i < l.length by omega]
   have g2 : l.getD (1 + j) (0,0)=l[1 + j]'(by omega):=by simp [List.getD_eq_getElem?_getD,show 1 + j < l.length by omega]
   rw [← g1,← g2] at hc
   obtain ⟨p,hp,h5,h6⟩:=h2 (1 + i) (by omega) (by omega)
   have hnd : ∀ a b,a < l.length->b < l.length->(l.getD a (0,0)).1=(l.getD b (0,0)).1->a=b:=fun a b ha hb e => by
    have hh:=List.nodup_iff_pairwise_ne.1 h1.nd
    rcases Nat.lt_trichotomy a b with h | h | h
    . exfalso
      have:=List.pairwise_iff_getElem.1 hh a b (by simpa using ha) (by simpa using hb) h
      apply this
      simpa [List.getD_eq_getElem?_getD,ha,hb] using e
    . exact h
    . exfalso
      have:=List.pairwise_iff_getElem.1 hh b a (by simpa using hb) (by simpa using ha) h
      apply this
      simpa [List.getD_eq_getElem?_getD,ha,hb] using e.symm
   rcases ye7 h5 hc with e | e
   . have:=hnd _ _ (by omega) (by omega) e; omega
   . rw [h6] at e
     have:=hnd _ _ (by omega) (by omega) e; omega
 . rw [hl,List.pairwise_map]
   have hlt : (List.range g.n.toNat).Pairwise (· < ·):=List.pairwise_lt_range
   refine List.Pairwise.imp_of_mem ?_ (hlt.filter (minB g))
   intro a b ha hb hab x hx y hy hc
   obtain ⟨ha1,ha2⟩:=List.mem_filter.1 ha
   obtain ⟨hb1,hb2⟩:=List.mem_filter.1 hb
   have ha1:=List.mem_range.1 ha1
   have hb1:=List.mem_range.1 hb1
   have hx:=List.mem_of_mem_drop (List.mem_reverse.1 hx)
   have hy1:=List.mem_reverse.1 hy
   have cx:=(xy9 hg (v:=(a : Int)) (by omega)).1 (List.mem_map.2 ⟨x,hx,rfl⟩)
   have cy:=(xy9 hg (v:=(b : Int)) (by omega)).1 (List.mem_map.2 ⟨y,List.mem_of_mem_drop hy1,rfl⟩)
   obtain ⟨h1,h2,h3,h4⟩:=xn6 hg (v:=(b : Int)) (by omega)
   have hye:=(yp0 h2 y hy1).1
   have hyx : Conn g y.1 x.1:=by
    rcases ye7 hye hc with e | e
    . rw [e]; exact .refl _
    . rw [e]; exact .one (yr7 hye)
   exact xy7.1 hb2 a hab ((cx.trans hyx.symm).trans cy.symm)
theorem zw3 (g : Chg) (w : Nat) : ∃ u : Nat,u<=w∧Conn g u w∧minB g u=true:=by
 induction w using Nat.strongRecOn with
 | ind w ih =>
   by_cases h : minB g w=true
   . exact ⟨w,Nat.le_refl _,.refl _,h⟩
   . have : ¬ ∀ u : Nat,u < w->¬ Conn g u w:=fun hh => h (xy7.2 hh)
     obtain ⟨u,hu⟩:=Classical.not_forall.1 this
     obtain ⟨hu1,hu2⟩:=Classical.not_imp.1 hu
     have hu2:=Classical.not_not.1 hu2
     obtain ⟨t,h1,h2,h3⟩:=ih u hu1
     exact ⟨t,by omega,h2.trans hu2,h3⟩
theorem told_right {g : Chg} (hg : xc7 g=true) (he : ∀ v : Nat,(v : Int) < g.n->rs g.n.toNat (ctS g v) % 2=0) : satG g ((seqI (xb7 g)).foldl (stO g) 0)=true:=by
 have hG:=xf0.1 hg
 have hn:=hG.n1
 have hL:=xw9 hg g.n.toNat (Nat.le_refl _)
 have hl : xb7 g=((List.range g.n.toNat).filter (minB g)).map fun v : Nat => xh0 g v:=(xy8 hg g.n.toNat (by omega)).2
 have hR:=yv0 hG (seqI (xb7 g)) 0 (fun r hr => ⟨hL.vx r hr,(hL.ends r hr).1⟩) hL.nd (fun r _ => by simp) (seq_pw hg)
 generalize (seqI (xb7 g)).foldl (stO g) 0=X at *
 have hnon : ∀ w : Nat,(w : Int) < g.n->minB g w=false->satV g X w=true:=fun w hw hm => by
  obtain ⟨u,h1,h2,h3⟩:=zw3 g w
  have hne : u ≠ w:=fun e => by subst e; rw [h3] at hm; cases hm
  have hx:=(xy9 hg (v:=(u : Int)) (by omega)).2 h2
  obtain ⟨r,hr,e⟩:=List.mem_map.1 hx
  obtain ⟨_,_,_,h4⟩:=xn6 hg (v:=(u : Int)) (by omega)
  obtain ⟨t,ht⟩:=xx0 h4
  have hrt : r ∈ t:=by
   rw [ht] at hr
   rcases List.mem_cons.1 hr with rfl | hr
   . exfalso; simp only at e; omega
   . exact hr
  have:=hR r (by
   unfold seqI
   refine List.mem_flatMap.2 ⟨xh0 g u,?_,?_⟩
   . rw [hl]; exact List.mem_map.2 ⟨u,List.mem_filter.2 ⟨List.mem_range.2 (by omega),h3⟩,rfl⟩
   . rw [ht]; simpa using hrt)
  rw [e] at this
  simpa using this
 unfold satG
 rw [List.all_eq_true]
 intro w hw
 have hw:=List.mem_range.1 hw
 cases hm : minB g w with
 | false => exact hnon w (by omega) hm
 | true =>
   have h:=zx7 hG (xz9 g w) (zx0 hG w) X
   have e2 : rs g.n.toNat (fun i => if xz9 g w i then g.ch.getD i 0 else 0)=rs g.n.toNat (ctS g w):=rfl
   rw [e2] at h
   have h3:=he w (by omega)
   have h4:=zq0 (f:=fun i => if xz9 g w i && !(satV g X i) then 1 else 0) (g:=fun _ => 0) (a:=w) g.n.toNat fun i hi hiw => by
    by_cases hc : xz9 g w i=true
    . have hmi : minB g i=false:=by
       cases hmi : minB g i with
       | false => rfl
       | true =>
         exfalso
         have hcc:=xo9.1 hc
         rcases Nat.lt_or_ge i w with h5 | h5
         . exact xy7.1 hm i h5 hcc.symm
         . exact xy7.1 hmi w (by omega) hcc
      rw [hnon i (by omega) hmi]; simp
    . simp only [Bool.not_eq_true] at hc
      simp [hc]
   rw [if_pos hw,rs_z] at h4
   have hcw : xz9 g w w=true:=xo9.2 (.refl _)
   cases hs : satV g X w with
   | true => rfl
   | false =>
     exfalso
     simp only [hcw,hs,Bool.not_false,Bool.and_self,if_true] at h4
     omega
end Abs.Y

namespace Abs.Y
open Go Go.Proofs Abs
set_option maxRecDepth 100000

def xz5 (v : Int) (cs : List (List Int)) : Bool:=(xk1 v && decide (cs.length<=60)) && cs.all (xe6 v)
theorem okCnf_bad {v : Int} {cs : List (List Int)} {i : Nat} (h : i < cs.length) (h' : xe6 v (cs.getD i [])=false) : xz5 v cs=false:=by
 rw [xz5,all_false (z:=[]) h h',Bool.and_false]
theorem okCnf_good {v : Int} {cs : List (List Int)} (h : ∀ j,j < cs.length->xe6 v (cs.getD j [])=true) : xz5 v cs=(xk1 v && decide (cs.length<=60)):=by
 rw [xz5,all_true (z:=[]) h,Bool.and_true]
theorem yy4 (v : Int) (cs : List (List Int)) (hl : cs.length<=4294967296) (hc : ∀ j,(cs.getD j []).length<=4294967296) :
 Ctr Tryz.prog 52 [.agg [.int .i64 v,.slice (cs.map D.ints)]] false (.d (.bool (xz5 v cs))) []:=by
 refine Ctr.of (n:=27) (rs:=[.tmp 2]) Tryz.func52 rfl rfl Tryz.ntmps52 rfl rfl (by kernel_rfl) Tryz.checked.mixed ?_
 simp (disch:=first | omega | decide +kernel) only [go_sem,Qa,Qb,Qc,Qd,Qe,↓reduceIte,reduceCtorEq,Qf,Qg,Qh]
 refine Ok.loopC [17,16,15,14,13,12,11,10,9,8,5,4,3,2,0] (fun i => [(8,.d (.int .i64 (i : Nat)))]) cs.length (fun i => ∀ j,j < i->xe6 v (cs.getD j [])=true) (by simp) (Wk.kk) ?_
 intro R i hN hE hi hI
 simp (disch:=first | omega | decide +kernel) only [go_sem,Qa,Qb,Qc,Qd,Qe,↓reduceIte,reduceCtorEq,Qf,Qg,Qh]
 (repeat' (first | ((first | (refine xa0 ?_ ?_<;>intro q'<;>(have h':=q')<;>(try simp only [zz] at h')) | (have q':=trivial; first | refine xa3 (yp6 v _ (hc _)) rfl (by decide) ?_ | refine xa4 (yp6 v _ (hc _)) rfl ?_ | refine xa3 (yb9 _) rfl (by decide) ?_ | refine xa4 (yb9 _) rfl ?_ | refine hE _ _ xa5 ?_ | refine hE _ _ xa2 ?_))<;>(try simp (disch:=first | omega | decide +kernel) only [q',go_sem,Qa,Qb,Qc,Qd,Qe,↓reduceIte,reduceCtorEq,Qf,Qg,Qh])<;>clear q') | refine hN _ ?_ ?_ Wk.kk | (with_reducible first | refine And.intro ?_ ?_ | omega) | exact xb8 | exact xa8 | exact xa6 | with_reducible exact xa7 | (refine xa1 ?_; omega) | (refine za9 ⟨?_,?_⟩) | (simp only [go_sem,Qc,Qb,zb1,zb2,forall_eq]; done)))
 . rename_i h1
   rw [okCnf_bad h1 h']
 . exact xi8 hI h'
 . rw [okCnf_good fun j hj => hI j (by omega),h',Bool.true_and,decide_eq_decide.2 (by omega : (cs.length : Int)<=60↔cs.length<=60)]
 . simp [xz5,h']
def zc3 (v : Int) (steps : List Step) (k i : Int) : Bool:=(decide (0<=i) && decide (i<=k - 1)) && xe6 v (steps.getD i.toNat Step.z).c
end Abs.Y

namespace Abs.Y
open Go Go.Proofs Abs
set_option maxRecDepth 100000

theorem clone_ok (xs : List Int) (hl : xs.length<=4294967296) : Ctr Tryz.prog 118 [.ints xs] false (.sl 0) [(0,.arr 3 1 (xs.map (.int .i64)))]:=by
 refine Ctr.of (n:=8) (rs:=[.tmp 2]) Tryz.func118 rfl rfl Tryz.ntmps118 rfl rfl (by kernel_rfl) Tryz.checked.mixed ?_
 simp (disch:=first | omega | decide +kernel) only [D.ints,go_sem,Qa,Qb,Qc,Qd,Qe,↓reduceIte,reduceCtorEq,Qf,Qg,Qh]
 intro b hb
 cases b with
 | true =>
   obtain rfl : xs=[]:=by cases xs with | nil => rfl | cons x r => simp at hb
   simp (disch:=first | omega | decide +kernel) only [go_sem,Qa,Qb,Qc,Qd,Qe,↓reduceIte,reduceCtorEq,Qf,Qg,Qh]
   (repeat' (first | ((first | (refine xa0 ?_ ?_<;>intro q'<;>(have h':=q')<;>(try simp only [zz] at h')) | (have q':=trivial; first | refine hE _ _ xa5 ?_ | refine hE _ _ xa2 ?_))<;>(try simp (disch:=first | omega | decide +kernel) only [q',go_sem,Qa,Qb,Qc,Qd,Qe,↓reduceIte,reduceCtorEq,Qf,Qg,Qh])<;>clear q') | refine hN _ ?_ ?_ Wk.kk | (with_reducible first | refine And.intro ?_ ?_ | omega) | exact xb8 | exact xa8 | exact xa6 | with_reducible exact xa7 | (refine xa1 ?_; omega) | (refine za9 ⟨?_,?_⟩) | (simp only [go_sem,Qc,Qb,zb1,zb2,forall_eq]; done)))
   exact yt4 2 rfl rfl xa6
 | false =>
   simp (disch:=first | omega | decide +kernel) only [go_sem,Qa,Qb,Qc,Qd,Qe,↓reduceIte,reduceCtorEq,Qf,Qg,Qh]
   (repeat' (first | ((first | (refine xa0 ?_ ?_<;>intro q'<;>(have h':=q')<;>(try simp only [zz] at h')) | (have q':=trivial; first | refine hE _ _ xa5 ?_ | refine hE _ _ xa2 ?_))<;>(try simp (disch:=first | omega | decide +kernel) only [q',go_sem,Qa,Qb,Qc,Qd,Qe,↓reduceIte,reduceCtorEq,Qf,Qg,Qh])<;>clear q') | refine hN _ ?_ ?_ Wk.kk | (with_reducible first | refine And.intro ?_ ?_ | omega) | exact xb8 | exact xa8 | exact xa6 | with_reducible exact xa7 | (refine xa1 ?_; omega) | (refine za9 ⟨?_,?_⟩) | (simp only [go_sem,Qc,Qb,zb1,zb2,forall_eq]; done)))
   exact yt4 5 rfl rfl xa7
def putI (c : List Int) (l : Int) : List Int:=c.takeWhile (fun x => decide (varI x < varI l))++l :: c.dropWhile (fun x => decide (varI x < varI l))
def zy2 : List Int->List Int->Option (List Int)
 | a,[] => some a
 | a,x :: r => if a.any (· == IntKind.i64.wrap (0 - x)) then none else zy2 (if a.any (· == x) then a else putI a x) r
def optL (o : Option (List Int)) : List Int:=match o with | some c => c | none => []
def yk3 (a b : List Int) (v : Int) : Option (List Int) :=
 if (a.any (· == v) && b.any (· == IntKind.i64.wrap (0 - v)))=true then zy2 (a.filter fun l => varI l != v) (b.filter fun l => varI l != v) else none
end Abs.Y

namespace Go.Proofs
open Go.Shelf Go.RowKit Go.Lib Go.Sort
def cmpLit (a b : Int) : Int:=if compareInt (max a (wrap64 (-a))) (max b (wrap64 (-b))) ≠ 0 then compareInt (max a (wrap64 (-a))) (max b (wrap64 (-b))) else compareInt b a
end Go.Proofs

namespace Abs
open Go Go.RowKit Go.Sort Go.Proofs Go.Shelf

theorem ye4 {k : IntKind} : ∀ xs : List Int,flat (xs.map (D.int k))=xs.map (D.int k)
 | [] => rfl
 | x :: r => by
   have:=ye4 (k:=k) r
   simp only [flat,List.map_cons,List.flatMap_cons] at this ⊢
   rw [this]; rfl

theorem arr_open {β S w e xs v F} (h : OK β S w (.arr e 1 (xs.map (.int .i64))) v F) : (v=.slice none 0 0∧xs=[]) ∨
 ∃ g cap cur,v=.slice (some ⟨g,0,none⟩) xs.length cap∧w.heap[g]? = some (.cells cur e (0,0))∧xs.length<=cap∧cap<=maxLen∧cur.size=cap∧cur.toList.take xs.length=xs.map (Value.int .i64):=by
 cases h with
 | arr hF vs hk0 hk hw hr =>
   have hvs : vs=xs.map (Value.int .i64):=by
    have hl : vs.length=xs.length:=by have:=hw.1; simpa using this
    apply List.ext_getElem (by simpa using hl)
    intro i h1 h2
    have h3:=hr i (by rw [ye4]; simpa using h2)
    rw [ye4] at h3
    have hi : i < xs.length:=by simpa using h2
    simp only [List.getD_eq_getElem?_getD,List.getElem?_map,List.getElem?_eq_getElem hi,List.getElem?_eq_getElem h1,Option.map_some,Option.getD_some] at h3
    cases h3'' : vs[i] with
    | int k n => rw [h3''] at h3; cases h3; simp
    | _ => rw [h3''] at h3; cases h3
   rcases hw.2 with ⟨h1,h2⟩ | ⟨g,cap,cur,h1,_,h3,h4,h5,h6,h7⟩
   . exact .inl ⟨h1,by simpa using h2⟩
   . refine .inr ⟨g,cap,cur,by simpa using h1,h3,by simpa using h4,h5,by simpa using h6,?_⟩
     rw [← hvs]; simpa using h7

theorem arr_close {β' S' w' e g cap} {cur' : Array Value} {ys : List Int} (hb : w'.heap[g]? = some (.cells cur' e (0,0))) (hcap : ys.length<=cap) (hm : cap<=maxLen) (hsz : cur'.size=cap) (ht : cur'.toList.take ys.length=ys.map (Value.int .i64)) :
 OK β' S' w' (.arr e 1 (ys.map (.int .i64))) (.slice (some ⟨g,0,none⟩) ys.length cap) (ownS (.slice (some ⟨g,0,none⟩) ys.length cap)):=by
 refine .arr rfl (ys.map (Value.int .i64)) (by omega) (fun x hx => ?_) ⟨by simp,.inr ⟨g,cap,cur',by simp,Nat.zero_le _,hb,by simpa using hcap,hm,by simpa using hsz,by simpa using ht⟩⟩ fun i hi => ?_
 . obtain ⟨y,_,rfl⟩:=List.mem_map.1 hx; rfl
 . rw [ye4] at hi ⊢
   have hi' : i < ys.length:=by simpa using hi
   simp only [List.getD_eq_getElem?_getD,List.getElem?_map,List.getElem?_eq_getElem hi',Option.map_some,Option.getD_some]
   exact .int _ _
theorem arr_nil {β' S' w' e} : OK β' S' w' (.arr e 1 ([].map (D.int .i64))) (.slice none 0 0) (ownS (.slice none 0 0)) :=
 .arr rfl [] (by omega) (by simp) ⟨by simp,.inl ⟨rfl,by simp⟩⟩ (by simp [flat])

theorem holds_of {w : World} {g : Nat} {cur : Array Value} {e : TypeId} {xs : List Int} (hb : w.heap[g]? = some (.cells cur e (0,0))) (ht : cur.toList.take xs.length=xs.map (Value.int .i64)) : Holds (Value.int .i64) w g 0 xs.toArray:=by
 intro j hj
 have hj' : j < xs.length:=by simpa using hj
 refine ⟨?_,by simp [World.frozen?, hb]⟩
 have h1:=congrArg (fun l : List Value => l[j]?) ht
 simp only [List.getElem?_take,if_pos hj',List.getElem?_map,List.getElem?_eq_getElem hj',Option.map_some] at h1
 have h2 : cur[j]? = some (Value.int .i64 xs[j]):=by rw [← h1]; simp
 simp [World.cell?, hb,h2,hj']

theorem putRow_block {w : World} {g : Nat} {cur : Array Value} {e : TypeId} (d : Array Int) (hb : w.heap[g]? = some (.cells cur e (0,0))) :
 (putRow (Value.int .i64) w g 0 d).heap[g]? = some (.cells (putCells (Value.int .i64) 0 d cur) e (0,0)):=by
 simp [putRow,mapBlock,Array.getElem?_modify,hb,onCells]
theorem putRow_other {w : World} {g k : Nat} (d : Array Int) (h : k ≠ g) : (putRow (Value.int .i64) w g 0 d).heap[k]? = w.heap[k]? := by
 simp only [putRow,mapBlock,Array.getElem?_modify]
 rw [if_neg (Ne.symm h)]
theorem putCells_take (d : Array Int) (cur : Array Value) (k : Nat) (hk : k<=d.size) (hd : d.size<=cur.size) : (putCells (Value.int .i64) 0 d cur).toList.take k=(d.toList.take k).map (Value.int .i64):=by
 apply List.ext_getElem?
 intro i
 simp only [List.getElem?_take,List.getElem?_map,putCells]
 split
 . rename_i hi
   have h1 : i < cur.size:=by omega
   have h2 : i < d.size:=by omega
   simp [h1,h2]
 . rfl

theorem sortWorld_fr {w : World} {g m : Nat} {d : Array Int} {os : Array Obj} {M : Nat->Prop} (hM : M g) : Fr w.heap.size M w (sortWorld (Value.int .i64) w g 0 m d os):=by
 refine ⟨rfl,rfl,rfl,?_,?_,fun k hk hkM => ?_,Nat.le_add_right _ _⟩
 . show w.heap.size<=((putRow _ (ahead w m) g 0 d).heap++os).size
   rw [Array.size_append,Go.Sort.size_putRow]; simp
 . show w.heap.size<=((putRow _ (ahead w m) g 0 d).heap++os).size
   rw [Array.size_append,Go.Sort.size_putRow]; simp
 . have hne : k ≠ g:=fun e => hkM (e ▸ hM)
   show ((putRow _ (ahead w m) g 0 d).heap++os)[k]? = _
   rw [Array.getElem?_append_left (by rw [Go.Sort.size_putRow]; exact hk),putRow_other _ hne]; rfl
theorem sortWorld_block {w : World} {g m : Nat} {d : Array Int} {os : Array Obj} {cur : Array Value} {e : TypeId} (hb : w.heap[g]? = some (.cells cur e (0,0))) :
 (sortWorld (Value.int .i64) w g 0 m d os).heap[g]? = some (.cells (putCells (Value.int .i64) 0 d cur) e (0,0)):=by
 have hlt : g < w.heap.size:=(Array.getElem?_eq_some_iff.1 hb).1
 show ((putRow _ (ahead w m) g 0 d).heap++os)[g]? = _
 rw [Array.getElem?_append_left (by rw [Go.Sort.size_putRow]; exact hlt)]
 exact putRow_block d hb

theorem CtrM.inPlace {P : Program} {f : FuncId} {rest : List AV} {e : TypeId} {xs ys : List Int} (hent : Enters P f) (hl : ys.length=xs.length) (hx : xs.length<=4294967296)
 (h : ∀ (S : Nat->Prop) (β : Nat->Value) (w : World) (rv : List Value),rv.length=rest.length->(∀ i,i < rest.length->Rel β S w (rest.getD i .undef) (rv.getD i Go.undef)) ->
  (xs=[]->∀ a cap,Calls P f (.slice a 0 cap :: rv).toArray w fun en w' => en=.returned (.tuple #[])∧w'=w) ∧
  (∀ g cap,Holds (Value.int .i64) w g 0 xs.toArray->g < w.heap.size->Calls P f (.slice (some ⟨g,0,none⟩) xs.length cap :: rv).toArray w fun en w' => en=.returned (.tuple #[])∧∃ m os,w'=sortWorld (Value.int .i64) w g 0 m ys.toArray os)) :
 CtrM P f (.sl 0 :: rest) [(0,.arr e 1 (xs.map (.int .i64)))] [0] false (.tup []) [(0,.arr e 1 (ys.map (.int .i64)))]:=by
 refine ⟨hent,fun S β φ w vs hvl hvr hO hD => ?_⟩
 cases vs with
 | nil => simp at hvl
 | cons v rv =>
   obtain ⟨h1,h2⟩:=h (free S φ [(0,.arr e 1 (xs.map (.int .i64)))]) β w rv (by simpa using hvl) fun i hi => by simpa using hvr (i + 1) (by simpa using hi)
   have hv : v=β 0:=by
    have:=hvr 0 (by simp)
    simp only [List.getD_cons_zero] at this
    cases this; rfl
   have hOk:=hO 0 (.arr e 1 (xs.map (.int .i64))) (by simp [lk])
   have hFo : φ 0=ownS (β 0):=by
    generalize β 0=v0 at *
    generalize φ 0=F0 at *
    cases hOk with | arr hF => exact hF
   have one : ∀ {j : Nat} {o : AO} {l : List Int},lk j [(0,AO.arr e 1 (l.map (D.int .i64)))]=some o->j=0∧o=.arr e 1 (l.map (.int .i64)):=fun hj => by
    simp only [lk] at hj
    split at hj
    . rename_i e'; cases hj; exact ⟨e',rfl⟩
    . cases hj
   rcases arr_open hOk with ⟨h3,rfl⟩ | ⟨g,cap,cur,h3,h4,h5,h6,h7,h8⟩
   . obtain rfl : ys=[]:=by simpa using hl
     rw [hv,h3]
     refine (h1 rfl none 0).mono fun en w' ⟨he,hw⟩ => ⟨_,he,?_,?_⟩
     . subst hw; exact ⟨rfl,rfl,rfl,Nat.le_refl _,Nat.le_refl _,fun _ _ _ => rfl,Nat.le_refl _⟩
     . subst hw
       refine ⟨β,φ,fun _ _ => rfl,Rel.tup (xs:=[]) (vs:=[]) rfl (by simp),fun j o hj => ?_,fun j o g hj hg => ?_,fun j j' o o' g hj hj' _ _ => ?_⟩
       . obtain ⟨rfl,rfl⟩:=one (l:=[]) hj
         rw [hFo,h3]; exact arr_nil
       . obtain ⟨rfl,rfl⟩:=one (l:=[]) hj
         rw [hFo,h3] at hg; cases hg
       . rw [(one (l:=[]) hj).1,(one (l:=[]) hj').1]
   . have hlt : g < w.heap.size:=(Array.getElem?_eq_some_iff.1 h4).1
     have hM : xc6 φ [(0,AO.arr e 1 (xs.map (D.int .i64)))] g:=⟨0,.arr e 1 (xs.map (.int .i64)),by simp [lk],by rw [hFo,h3]; rfl⟩
     rw [hv,h3]
     refine (h2 g cap (holds_of h4 h8) hlt).mono fun en w' ⟨he,m,os,hw⟩ => ⟨_,he,?_,?_⟩
     . subst hw; exact sortWorld_fr hM
     . subst hw
       refine ⟨β,φ,fun _ _ => rfl,Rel.tup (xs:=[]) (vs:=[]) rfl (by simp),fun j o hj => ?_,fun j o g' hj hg => ?_,fun j j' o o' g hj hj' _ _ => ?_⟩
       . obtain ⟨rfl,rfl⟩:=one (l:=ys) hj
         rw [hFo,h3,← hl]
         refine arr_close (sortWorld_block h4) (by omega) h6 (by simp [putCells,h7]) ?_
         have:=putCells_take ys.toArray cur ys.length (by simp) (by simp; omega)
         simpa using this
       . obtain ⟨rfl,rfl⟩:=one (l:=ys) hj
         rw [hFo,h3] at hg
         cases hg
         exact .inr hM
       . rw [(one (l:=ys) hj).1,(one (l:=ys) hj').1]

end Abs

namespace Abs.Y
open Go Go.Proofs Abs Go.Sort Go.Shelf Go.Lib Go.RowKit
set_option maxRecDepth 100000

def mI (a : Int) : Int:=max a (wrap64 (-a))
def zy7 (xs : List Int) : List Int:=xs.mergeSort fun x y => !(ltOf cmpLit y x)
def zz7 (xs : List Int) : List Int:=Lib.compact xs
end Abs.Y

namespace Abs.Y
open Go Go.Proofs Abs
set_option maxRecDepth 100000
end Abs.Y

namespace Abs.Y
open Go Go.Proofs Abs
set_option maxRecDepth 100000
def zr1 (s : List Int) : Prop:=∀ j,j < s.length->0 < j->s.getD j 0 ≠ IntKind.i64.wrap (0 - s.getD (j - 1) 0)
instance (s) : Decidable (zr1 s):=by unfold zr1; infer_instance
def zt0 (xs : List Int) : Option (List Int):=if zr1 (zz7 (zy7 xs)) then some (zz7 (zy7 xs)) else none
def resolveP (a b : List Int) (v : Int) : Option (List Int) :=
 if (a.any (· == v) && b.any (· == IntKind.i64.wrap (0 - v)))=true then zt0 ((a.filter fun l => !(mI l == v))++(b.filter fun l => !(mI l == v))) else none
end Abs.Y

namespace Abs.Y
open Go Go.Proofs Abs Go.Sort Go.Lib
set_option maxRecDepth 100000

def Good (l : List Int) : Prop:=l.Pairwise (fun x y => x.natAbs < y.natAbs)∧∀ x ∈ l,x ≠ 0∧x.natAbs<=12
theorem good_of_ok {v : Int} {c : List Int} (h : xe6 v c=true) : Good c:=by
 simp only [xe6,Bc,decide_eq_true_eq] at h
 obtain ⟨hv,hc⟩:=h
 rw [xs8] at hv
 have hlt : ∀ j,j < c.length->∀ i,i < j->(c.getD i 0).natAbs < (c.getD j 0).natAbs:=by
  intro j
  induction j with
  | zero => intro _ i hi; omega
  | succ j ih =>
    intro hj i hi
    have h1:=(hc (j + 1) hj).2 (by omega)
    rw [Nat.add_sub_cancel] at h1
    by_cases e : i=j
    . subst e; exact h1
    . have:=ih (by omega) i (by omega); omega
 refine ⟨List.pairwise_iff_getElem.2 fun i j hi hj hij => ?_,fun x hx => ?_⟩
 . have:=hlt j hj i hij
   simpa [List.getD_eq_getElem?_getD,hi,hj] using this
 . obtain ⟨j,hj,rfl⟩:=yx6 0 hx
   have:=(hc j hj).1
   omega
end Abs.Y

namespace Abs.Y
open Go Go.Proofs Abs
set_option maxRecDepth 100000


end Abs.Y
