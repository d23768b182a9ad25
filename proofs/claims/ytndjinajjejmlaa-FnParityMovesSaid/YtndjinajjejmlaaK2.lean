/- What functions of this program compute, over plain data. No condition. -/
import Derived.Test.YtndjinajjejmlaaAbsLaws
import Derived.Test.YtndjinajjejmlaaAbsRow
set_option linter.all false
open Nat renaming reduceEqDiff -> Qa, reduceLT -> Qb, reduceAdd -> Qc, reduceMul -> Qd, reduceSub -> Qe, reduceLeDiff -> Qf, reduceSubDiff -> Qg, reduceBEq -> Qh
open Bool renaming not_eq_true' -> Ba, not_eq_false' -> Bb, and_eq_true -> Bc, or_eq_true -> Bh, or_eq_false_iff -> Be
open Int renaming ofNat_lt -> Ia, ofNat_le -> Ib, not_lt -> Ic, not_le -> Ie
open Decidable renaming not_not -> Da
namespace Abs.Y
open Go Go.Proofs Abs
set_option maxRecDepth 100000

end Abs.Y

namespace Abs.Y
open Go Go.Proofs Abs
set_option maxRecDepth 100000

end Abs.Y

namespace Abs
open Go Go.RowKit

theorem OK.deep {β S w e k es v F} (hb : ∀ x ∈ flat es,x.bare=true) (h : OK β S w (.arr e k es) v F) : OK β S w (.dp (some (e,k)) es none) v F:=by
 have hlt : ∀ g,F g->g < w.heap.size:=fun g hg => h.block_lt hg
 cases h with
 | arr hF xs hk0 hk hw hr =>
   subst hF
   exact .dp hlt (.inr ⟨e,k,xs,fun _ _ => False,.inr rfl,hk0,hk,hw,fun b hb => ⟨hb,fun _ h => h⟩,fun _ _ h => h.elim,fun _ _ _ h => h.elim,fun i hi _ => dp_bare (hb _ (by
    simp only [List.getD_eq_getElem?_getD,List.getElem?_eq_getElem hi,Option.getD_some]; exact List.getElem_mem hi)) (hr i hi),fun _ _ h => by cases h⟩)
theorem Wk.obj {N} {st : St} (j : Nat) {o o1 : AO} (hj : lk j st.o=some o) (h : ∀ β S w v F,OK β S w o v F->OK β S w o1 v F) (h0 : o.isRes=false:=by rfl) : Wk N st ⟨st.s,ins j o1 st.o⟩:=fun Z β φ B M w0 a w hs => by
 have hk : ∀ i x,lk i (ins j o1 st.o)=some x->(i=j∧x=o1)∨(i ≠ j∧lk i st.o=some x):=fun i x hi => by
  rw [lk_ins] at hi
  split at hi
  . rename_i e; cases hi; exact .inl ⟨e,rfl⟩
  . rename_i e; exact .inr ⟨e,hi⟩
 have he : ∀ i x,lk i (ins j o1 st.o)=some x->∃ y,lk i st.o=some y∧(x.isRes=false->y.isRes=false):=fun i x hi => by
  rcases hk i x hi with ⟨rfl,_⟩ | ⟨_,h2⟩
  . exact ⟨o,hj,fun _ => h0⟩
  . exact ⟨x,h2,id⟩
 have hS : ∀ g,free Z φ st.o g->g < w.heap.size->free Z φ (ins j o1 st.o) g∧w.heap[g]? = w.heap[g]? := fun g hg _ => ⟨⟨hg.1,fun i x hi hx => by
  obtain ⟨y,hy,hyr⟩:=he i x hi; exact hg.2 i y hy (hyr hx)⟩,rfl⟩
 refine ⟨β,φ,hs.nd.move hS,hs.size,fun i av hi => (hs.slots i av hi).move hS,fun i x hi => ?_,fun i x g hi hg => ?_,fun i i' x x' g hi hi' hg hg' => ?_,hs.fr,hs.z⟩
 . rcases hk i x hi with ⟨rfl,rfl⟩ | ⟨_,h2⟩
   . exact h _ _ _ _ _ ((hs.objs i o hj).move hS (Nat.le_refl _) fun _ _ => rfl)
   . exact (hs.objs i x h2).move hS (Nat.le_refl _) fun _ _ => rfl
 . obtain ⟨y,hy,_⟩:=he i x hi; exact hs.own i y g hy hg
 . obtain ⟨y,hy,_⟩:=he i x hi
   obtain ⟨y',hy',_⟩:=he i' x' hi'
   exact hs.disj i i' y y' g hy hy' hg hg'
theorem Wk.deep {N} {S : List (Nat × AV)} {O : List (Nat × AO)} (j : Nat) {e k es} (hj : lk j O=some (.arr e k es)) (hb : ∀ x ∈ flat es,x.bare=true) : Wk N ⟨S,O⟩ ⟨S,ins j (.dp (some (e,k)) es none) O⟩ :=
 Wk.obj (st:=⟨S,O⟩) j hj fun _ _ _ _ _ h => h.deep hb
theorem Ctr.data1 {P : Program} {f : FuncId} {xs : List D} {sh : Bool} {e : TypeId} {k : Nat} {es : List D} (h : Ctr P f xs sh (.sl 0) [(0,.arr e k es)]) : Ctr P f xs true (.d (.slice es)) []:=by
 refine ⟨h.1,fun S w vs hl hr => (h.2 S w vs hl hr).mono fun en w' ⟨v,he,hf,β,φ,hrel,hobj,hown,hdis⟩ => ⟨v,he,hf,β,φ,.d ?_,by simp [lk],by simp [lk],by simp [lk]⟩⟩
 cases hrel
 exact rd_of_arr (hobj 0 (.arr e k es) (by simp [lk])) (fun g hg _ => ⟨hg.1.imp id fun h => ⟨rfl,h.2⟩,by simp [lk]⟩) fun g hg => ⟨.inl (hown 0 (.arr e k es) g (by simp [lk]) hg),by simp [lk]⟩
theorem Ctr.dataD {P : Program} {f : FuncId} {xs : List D} {sh : Bool} {τ : Option (TypeId × Nat)} {es : List D} (h : Ctr P f xs sh (.sl 0) [(0,.dp τ es none)]) : Ctr P f xs true (.d (.slice es)) []:=by
 refine ⟨h.1,fun S w vs hl hr => (h.2 S w vs hl hr).mono fun en w' ⟨v,he,hf,β,φ,hrel,hobj,hown,hdis⟩ => ⟨v,he,hf,β,φ,.d ?_,by simp [lk],by simp [lk],by simp [lk]⟩⟩
 cases hrel
 exact rd_of_dp (hobj 0 (.dp τ es none) (by simp [lk])) fun g hg => ⟨.inl (hown 0 (.dp τ es none) g (by simp [lk]) hg),by simp [lk]⟩
theorem lk_one {α : Type} {j : Nat} {a b : α} (h : lk j [(0,a)]=some b) : j=0∧b=a:=by
 simp only [lk] at h
 split at h
 . rename_i e; cases h; exact ⟨e,rfl⟩
 . cases h
theorem free_one {T : Nat->Prop} {φ : Nat->Nat->Prop} {a b : AO} {g : Nat} (h0 : a.isRes=false) (h : free T φ [(0,a)] g) : free T φ [(0,b)] g:=⟨h.1,fun j x hj _ => by
 obtain ⟨rfl,rfl⟩:=lk_one hj; exact h.2 0 a (by simp [lk]) h0⟩
theorem CtrM.obj {P : Program} {f : FuncId} {avs : List AV} {oi : List (Nat × AO)} {keep : List Nat} {sh : Bool} {res : AV} {o o1 : AO} (h : ∀ β S w v F,OK β S w o v F->OK β S w o1 v F) (hc : CtrM P f avs oi keep sh res [(0,o)]) (hr0 : o.isRes=false:=by rfl) : CtrM P f avs oi keep sh res [(0,o1)]:=by
 refine ⟨hc.1,fun S β φ w vs hl hr hO hD => (hc.2 S β φ w vs hl hr hO hD).mono fun en w' ⟨v,he,hf,β',φ',h0,h1,h2,h3,h4⟩ => ⟨v,he,hf,β',φ',h0,h1.move fun g hg _ => ⟨free_one hr0 hg,rfl⟩,fun j x hj => ?_,fun j x g hj hg => ?_,fun j j' x x' g hj hj' _ _ => ?_⟩⟩
 . obtain ⟨rfl,rfl⟩:=lk_one hj
   exact h _ _ _ _ _ ((h2 0 o (by simp [lk])).move (fun g hg _ => ⟨free_one hr0 hg,rfl⟩) (Nat.le_refl _) fun _ _ => rfl)
 . obtain ⟨rfl,rfl⟩:=lk_one hj
   exact h3 0 o g (by simp [lk]) hg
 . rw [(lk_one hj).1,(lk_one hj').1]
theorem CtrM.deep {P : Program} {f : FuncId} {avs : List AV} {oi : List (Nat × AO)} {keep : List Nat} {sh : Bool} {res : AV} {e k es} (hc : CtrM P f avs oi keep sh res [(0,.arr e k es)]) (hb : ∀ x ∈ flat es,x.bare=true) : CtrM P f avs oi keep sh res [(0,.dp (some (e,k)) es none)] :=
 hc.obj fun _ _ _ _ _ h => h.deep hb
theorem bare_ints {k : IntKind} (xs : List Int) : (∀ x ∈ flat (List.map (D.int k) xs),x.bare=true)=True:=by
 refine eq_true fun x hx => ?_
 obtain ⟨y,hy,hc⟩:=List.mem_flatMap.1 hx
 obtain ⟨z,_,rfl⟩:=List.mem_map.1 hy
 have : x=.int k z:=by simpa [D.cells] using hc
 subst this; rfl
attribute [go_sem] bare_ints
theorem retM_d {P t st x u ob} (h : lk t st.s=some (.d x)) (ho : lk 0 st.o=some ob) (hk : lk 1000000000 st.s=some (.hdr 0 (u 0))) (hx : x.plain=true) (hp : ob.plain) (hr : ob.ren (fun j => j)=ob) :
 retM P [.tmp t] u [0] false (.d x) [(0,ob)] .ret st:=by
 simp only [retM,resV,h]
 refine ⟨trivial,⟨fun j => j,rfl,by simpa [hr] using ho,by simp,⟨rfl,hk,trivial⟩⟩,.inr ⟨hx,hp,trivial⟩⟩
theorem ret_dp {P t st τ es} (j : Nat) (h : lk t st.s=some (.sl j)) (ho : lk j st.o=some (.dp τ es none)) : retQ P [.tmp t] false (.sl 0) [(0,.dp τ es none)] .ret st:=by
 refine .inl ?_
 simp only [retO,resV,h]; exact ⟨trivial,.one j rfl ho,.inr ⟨trivial,trivial,trivial⟩⟩
theorem Packs.two {st av res o1 o2} (i1 i2 : Nat) (hne : i1 ≠ i2) (h : av=res.ren (nth [i1,i2])) (h1 : lk i1 st.o=some (o1.ren (nth [i1,i2]))) (h2 : lk i2 st.o=some (o2.ren (nth [i1,i2]))) : Packs st av res [(0,o1),(1,o2)]:=by
 refine ⟨nth [i1,i2],h,fun p hp => ?_,fun p hp q hq e => ?_⟩
 . simp only [List.mem_cons,List.not_mem_nil,or_false] at hp
   rcases hp with rfl | rfl
   . exact h1
   . exact h2
 . simp only [List.mem_cons,List.not_mem_nil,or_false] at hp hq
   rcases hp with rfl | rfl<;>rcases hq with rfl | rfl
   . rfl
   . exact absurd e hne
   . exact absurd e.symm hne
   . rfl
theorem ret_cst2 {P : Program} {a j i1 i2 : Nat} {t e : TypeId} {cells cs' : List AV} {o1 o2 : AO} {st : St} (h : lk a st.s=some (.p j 0)) (hj : lk j st.o=some (.box e cells)) (hag : aggT P t=true) (hn : P.cellsOf t=cells.length) (hd : allD cells=none)
 (hu : (P.underlying t).isSome=true) (h1 : lk i1 st.o=some o1) (h2 : lk i2 st.o=some o2) (hne : i1 ≠ i2) (hc : cells=AV.renL (nth [i1,i2]) cs') (hp : AV.plainL cs') (hop1 : o1.plain) (hop2 : o2.plain)
 (hr1 : o1.ren (nth [i1,i2])=o1) (hr2 : o2.ren (nth [i1,i2])=o2) : retQ P [.cell a t] false (.st cs') [(0,o1),(1,o2)] .ret st:=by
 refine .inl ?_
 have hl : (lk a st.s).bind (loadV P st.o t)=some (0 + P.cellsOf t<=cells.length∧(P.underlying t).isSome=true,.st cells):=by
  rw [h,Option.bind_some,loadV,hj]
  simp only [hag,if_true,List.drop_zero,hn,List.take_length,hd]
 simp only [retO,resV,hl]
 exact ⟨⟨hu,⟨by omega,hu⟩,trivial⟩,.two i1 i2 hne (by simp only [oneOf,AV.ren,hc]) (by rw [hr1]; exact h1) (by rw [hr2]; exact h2),.inr ⟨hp,hop1,hop2,trivial⟩⟩
theorem callX_keep {P N f cavs st dst K} (J : Nat) {avs o res o'} (hs : CtrM P f avs [(0,o)] [0] false res [(0,o')]) (hp : passM P (delL [J] st.o) (nth [J]) false cavs avs) (ho : lkn J st.o=some (o.ren (nth [J])))
 (hd : dstB N dst) (hK : K (impM st dst (nth [J]) [] res [(0,o')])) : callX P N f cavs dst K st :=
 callX_mut [J] [J] [] hs hp ⟨ho,trivial⟩ (by simp [namesOK,keysO,nth]) hd hK

def cntI (k : Int) : Nat->List Int
 | 0 => []
 | n + 1 => k :: cntI (k + 1) n
end Abs
namespace Abs
end Abs
namespace Abs
def cntSS : List (List Int)->Int->List (List Int)
 | [],_ => []
 | x :: r,k => cntI k x.length :: cntSS r (k + x.length)
def lenSS : List (List Int)->Nat
 | [] => 0
 | x :: r => x.length + lenSS r
def offSS (a : List (List Int)) (k : Int) (i : Nat) : Int:=k + (lenSS (a.take i) : Nat)
def lenST : List Step->Nat
 | [] => 0
 | s :: r => s.c.length + 3 + lenST r
def cntST1 (s : Step) (k : Int) : Step:=⟨cntI k s.c.length,k + s.c.length,k + s.c.length + 1,k + s.c.length + 2⟩
def cntST : List Step->Int->List Step
 | [],_ => []
 | s :: r,k => cntST1 s k :: cntST r (k + s.c.length + 3)
def offST (a : List Step) (k : Int) (i : Nat) : Int:=k + (lenST (a.take i) : Nat)
end Abs
namespace Abs
end Abs
namespace Abs
end Abs
namespace Abs
end Abs
namespace Abs
open Go Go.RowKit
theorem Wk.nilObj {N} {S : List (Nat × AV)} {O : List (Nat × AO)} (d j off : Nat) {e t : TypeId} {k : Nat} {cells : List AV} (hj : lk j (wipeO d O)=some (.box t cells)) (hn : cells.getD off .undef=.nilS) (ho : off < cells.length) (hdj : j ≠ d) (hk : 0 < k) :
 Wk N ⟨S,O⟩ ⟨wipeS d S,ins d (.arr e k []) (ins j (.box t (setL cells off [.sl d])) (wipeO d O))⟩:=fun Z β φ B M w0 a w hs => by
 have h1:=hs.kill (β':=upd β d (.slice none 0 0)) (φ':=updF φ d (ownS (.slice none 0 0))) d upd_ne updF_ne
 have g0 : Gb w w none:=Gb.refl w none
 have h2:=h1.mod (o:=.box t (setL cells off [.sl d])) (j:=j) hj (w':=w) g0 (by simp) fun S' m1 m2 => by
  have hO:=h1.objs j _ hj
  rw [upd_ne j hdj,updF_ne j hdj] at hO ⊢
  generalize β j=vj at *
  generalize φ j=Fj at *
  cases hO with
  | box hF xs hne hw hr =>
    have hxl : xs.length=cells.length:=by simpa using hw.1
    have hsl : (setL cells off [.sl d]).length=cells.length:=setL_length (by simp; omega)
    refine .box hF xs hne (by rw [hsl]; exact hw) fun i hi => ?_
    rw [hsl] at hi
    rw [setL_getD (by simp; omega)]
    split
    . rename_i hh
      simp only [List.length_singleton] at hh
      have : i=off:=by omega
      subst this
      have h3:=hr i hi
      rw [hn] at h3
      simp only [Nat.sub_self,List.getD_cons_zero]
      generalize xs.getD i Go.undef=u at *
      cases h3
      have h4:=Rel.sl (β:=upd β d (.slice none 0 0)) (S:=S') (w:=w) d
      rwa [upd_eq] at h4
    . exact m1 _ _ (hr i hi)
 have hnone : lk d (ins j (.box t (setL cells off [.sl d])) (wipeO d O))=none:=by
  rw [lk_ins,if_neg (Ne.symm hdj)]
  exact lk_kill (st:=⟨S,O⟩)
 refine ⟨_,_,h2.layNew (j:=d) (o:=.arr e k []) hnone g0 (fun g hg => by rw [updF_eq] at hg; cases hg) fun S' _ _ => ?_⟩
 rw [upd_eq,updF_eq]
 exact .arr rfl [] hk (by simp) (World.ownsRow_nil _ _ _ _) (by simp [flat])
end Abs

namespace Abs.Y
open Go Go.Proofs Abs
set_option maxRecDepth 100000

def putZ : List Int->Int->List Int
 | [],n => [n]
 | x :: r,n => if x < n then x :: putZ r n else if x=n then x :: r else n :: x :: r
def Asc (l : List Int) : Prop:=l.Pairwise (· < ·)
theorem asc_uniq : ∀ {l1 l2 : List Int},Asc l1->Asc l2->(∀ x,x ∈ l1↔x ∈ l2)->l1=l2
 | [],[],_,_,_ => rfl
 | [],y :: s,_,_,h => absurd ((h y).2 (by simp)) (by simp)
 | x :: r,[],_,_,h => absurd ((h x).1 (by simp)) (by simp)
 | x :: r, y :: s, g1, g2, h => by
   have p1:=List.pairwise_cons.1 g1
   have p2:=List.pairwise_cons.1 g2
   have hxy : x=y:=by
    rcases List.mem_cons.1 ((h x).1 (by simp)) with e | hx
    . exact e
    . rcases List.mem_cons.1 ((h y).2 (by simp)) with e | hy
      . exact e.symm
      . have:=p1.1 y hy; have:=p2.1 x hx; omega
   subst hxy
   rw [asc_uniq (l1:=r) (l2:=s) p1.2 p2.2 fun z => ?_]
   constructor
   . intro hz
     rcases List.mem_cons.1 ((h z).1 (by simp [hz])) with rfl | h'
     . have:=p1.1 z hz; omega
     . exact h'
   . intro hz
     rcases List.mem_cons.1 ((h z).2 (by simp [hz])) with rfl | h'
     . have:=p2.1 z hz; omega
     . exact h'
def putAllZ (l xs : List Int) : List Int:=xs.foldl putZ l
def sortZ (xs : List Int) : List Int:=xs.mergeSort fun x y => decide (x<=y)
theorem sortZ_perm (xs : List Int) : (sortZ xs).Perm xs:=List.mergeSort_perm xs _
theorem sortZ_asc {xs : List Int} (h : xs.Nodup) : Asc (sortZ xs):=by
 have h1 : (sortZ xs).Pairwise fun x y => decide (x<=y)=true:=List.pairwise_mergeSort (fun a b c h1 h2 => by simp only [decide_eq_true_eq] at *; omega) (fun a b => by simp only [Bh,decide_eq_true_eq]; omega) xs
 have h2 : (sortZ xs).Nodup:=(sortZ_perm xs).nodup_iff.2 h
 refine (List.Pairwise.and h1 h2).imp fun {x y} ⟨h3,h4⟩ => ?_
 simp only [decide_eq_true_eq] at h3
 omega
end Abs.Y

namespace Abs.Y
open Go Go.Proofs Abs
set_option maxRecDepth 100000

structure Chg where
 n : Int
 ed : List (Int × Int)
 ch : List Int
deriving DecidableEq
def D.ed (e : Int × Int) : D:=.agg [.int .i64 e.1,.int .i64 e.2]
def D.chg (g : Chg) : D:=.agg [.int .i64 g.n,.slice (g.ed.map D.ed),D.ints g.ch]
theorem el_eds {xs : List (Int × Int)} {i : Nat} (h : i < xs.length) : el (xs.map D.ed) i=.agg [.int .i64 (xs.getD i (0,0)).1,.int .i64 (xs.getD i (0,0)).2]:=el_map (f:=D.ed) (0,0) h
theorem toNat_one : Int.toNat 1=1:=rfl
theorem el_c0 {x : D} {r : List D} : el (x :: r) 0=x:=rfl
theorem el_c1 {x y : D} {r : List D} : el (x :: y :: r) 1=y:=rfl
def atB (g : Chg) (v : Int) (k : Nat) : Bool:=decide ((g.ed.getD k (0,0)).1=v) || decide ((g.ed.getD k (0,0)).2=v)
theorem atB_1 {g : Chg} {v : Int} {k : Nat} (h : (g.ed.getD k (0,0)).1=v) : atB g v k=true:=by unfold atB; rw [decide_eq_true h]; rfl
theorem atB_2 {g : Chg} {v : Int} {k : Nat} (h : (g.ed.getD k (0,0)).2=v) : atB g v k=true:=by unfold atB; rw [decide_eq_true h,Bool.or_true]
theorem atB_n {g : Chg} {v : Int} {k : Nat} (h : ¬ (g.ed.getD k (0,0)).1=v) (h2 : ¬ (g.ed.getD k (0,0)).2=v) : ¬ atB g v k=true:=by unfold atB; rw [decide_eq_false h,decide_eq_false h2]; simp
def edgesTo (g : Chg) (v : Int) (m : Nat) : List Int:=((List.range m).filter (atB g v)).map fun (k : Nat) => (k : Int)
def edgesAt (g : Chg) (v : Int) : List Int:=edgesTo g v g.ed.length
theorem edgesTo_succ (g : Chg) (v : Int) (m : Nat) : edgesTo g v (m + 1)=if atB g v m=true then edgesTo g v m++[(m : Int)] else edgesTo g v m:=by
 unfold edgesTo
 rw [List.range_succ,List.filter_append,List.map_append]
 cases h : atB g v m<;>simp [h]
theorem edgesTo_len (g : Chg) (v : Int) (m : Nat) : (edgesTo g v m).length<=m:=by
 unfold edgesTo
 rw [List.length_map]
 have:=List.length_filter_le (atB g v) (List.range m)
 simpa using this
theorem mem_edges {g : Chg} {v k : Int} (h : k ∈ edgesAt g v) : 0<=k∧k.toNat < g.ed.length∧((g.ed.getD k.toNat (0,0)).1=v∨(g.ed.getD k.toNat (0,0)).2=v):=by
 unfold edgesAt edgesTo at h
 obtain ⟨j,hj,rfl⟩:=List.mem_map.1 h
 obtain ⟨h1,h2⟩:=List.mem_filter.1 hj
 have h3 : j < g.ed.length:=List.mem_range.1 h1
 have e : ((j : Int)).toNat=j:=by omega
 rw [e]
 refine ⟨by omega,h3,?_⟩
 simpa [atB] using h2
set_option maxHeartbeats 4000000 in
theorem at_ok (g : Chg) (v : Int) (hl : g.ed.length<=4294967296) : Ctr Try.prog 29 [D.chg g,.int .i64 v] false (.sl 0) [(0,.arr 3 1 ((edgesAt g v).map (.int .i64)))]:=by
 refine Ctr.of (n:=32) (rs:=[.tmp 4]) Try.func29 rfl rfl Try.ntmps29 rfl rfl (by kernel_rfl) Try.checked.mixed ?_
 simp (disch:=first | omega | decide +kernel) only [D.chg,D.ints,go_sem,Qa,Qb,Qc,Qd,Qe,↓reduceIte,reduceCtorEq,Qf,Qg,Qh]
 (repeat' (first | ((first | (refine gsel_split (fun q' => ?_) (fun q' => ?_)<;>(have h':=q')<;>(try simp only [za1,za2,Ba,Bb,za3,ne_eq,za4,za5,za6,Ia,Ib,Ic,Ie,Da,Bc,Bh,Be,za7,za8] at h')) | (have q':=trivial; first | refine hE _ _ ret_ne ?_ | refine hE _ _ exit_ne ?_))<;>(try simp (disch:=first | omega | decide +kernel) only [q',go_sem,Qa,Qb,Qc,Qd,Qe,↓reduceIte,reduceCtorEq,Qf,Qg,Qh])<;>clear q') | refine hN _ ?_ ?_ Wk.kk | with_reducible refine And.intro ?_ ?_ | with_reducible omega | exact ok_ints | exact cells_ints | exact no_mem | with_reducible exact plain_ints | (refine le_maxLen ?_; omega) | (refine za9 ⟨?_,?_⟩) | (simp only [go_sem,Qc,Qb,zb1,zb2,forall_eq]; done)))
 refine Ok.loopN [30,29,28,27,26,25,24,23,22,21,20,19,18,17,16,15,14,13,12,11,8,7,6,5,3,2,0] (fun i _ => [(11,.d (.int .i64 (i : Nat))),(5,.sl 5)]) (fun _ (cur : List Int) => [(5,.arr 3 1 (cur.map (.int .i64)))]) g.ed.length
  (fun i cur => cur=edgesTo g v i) [] (by simp [edgesTo]) (Wk.kk) ?_
 rintro R i cur hN hE hi rfl
 have hll:=edgesTo_len g v i
 have hsu:=edgesTo_succ g v i
 by_cases hlt : i < g.ed.length
 . simp (disch:=first | omega | decide +kernel) only [el_eds,el_c0,el_c1,toNat_one,go_sem,Qa,Qb,Qc,Qd,Qe,↓reduceIte,reduceCtorEq,Qf,Qg,Qh]
   (repeat' (first | ((first | (refine gsel_split (fun q' => ?_) (fun q' => ?_)<;>(have h':=q')<;>(try simp only [za1,za2,Ba,Bb,za3,ne_eq,za4,za5,za6,Ia,Ib,Ic,Ie,Da,Bc,Bh,Be,za7,za8] at h')) | (have q':=trivial; first | refine hE _ _ ret_ne ?_ | refine hE _ _ exit_ne ?_))<;>(try simp (disch:=first | omega | decide +kernel) only [q',el_eds,el_c0,el_c1,toNat_one,go_sem,Qa,Qb,Qc,Qd,Qe,↓reduceIte,reduceCtorEq,Qf,Qg,Qh])<;>clear q') | refine hN _ ?_ ?_ Wk.kk | with_reducible refine And.intro ?_ ?_ | with_reducible omega | exact ok_ints | exact cells_ints | exact no_mem | with_reducible exact plain_ints | (refine le_maxLen ?_; omega) | (refine za9 ⟨?_,?_⟩) | (simp only [go_sem,Qc,Qb,zb1,zb2,forall_eq]; done)))
   all_goals (first | (refine hN (edgesTo g v i++[(i : Int)]) _ hlt (by rw [hsu,if_pos (by first | exact atB_1 (by assumption) | exact atB_2 (by assumption))]) (Wk.kk); done) | (refine hN (edgesTo g v i) _ hlt (by rw [hsu,if_neg (atB_n (by assumption) (by assumption))]) (Wk.kk); done))
 . obtain rfl : i=g.ed.length:=by omega
   simp (disch:=first | omega | decide +kernel) only [el_eds,el_c0,el_c1,toNat_one,go_sem,Qa,Qb,Qc,Qd,Qe,↓reduceIte,reduceCtorEq,Qf,Qg,Qh]
   (repeat' (first | ((first | (refine gsel_split (fun q' => ?_) (fun q' => ?_)<;>(have h':=q')<;>(try simp only [za1,za2,Ba,Bb,za3,ne_eq,za4,za5,za6,Ia,Ib,Ic,Ie,Da,Bc,Bh,Be,za7,za8] at h')) | (have q':=trivial; first | refine hE _ _ ret_ne ?_ | refine hE _ _ exit_ne ?_))<;>(try simp (disch:=first | omega | decide +kernel) only [q',el_eds,el_c0,el_c1,toNat_one,go_sem,Qa,Qb,Qc,Qd,Qe,↓reduceIte,reduceCtorEq,Qf,Qg,Qh])<;>clear q') | refine hN _ ?_ ?_ Wk.kk | with_reducible refine And.intro ?_ ?_ | with_reducible omega | exact ok_ints | exact cells_ints | exact no_mem | with_reducible exact plain_ints | (refine le_maxLen ?_; omega) | (refine za9 ⟨?_,?_⟩) | (simp only [go_sem,Qc,Qb,zb1,zb2,forall_eq]; done)))
   exact ret_sl 5 rfl rfl plain_ints
set_option maxHeartbeats 4000000 in
theorem l27At_ok (g : Chg) (v : Int) (hl : g.ed.length<=4294967296) : Ctr Try.prog 46 [D.chg g,.int .i64 v] false (.sl 0) [(0,.arr 3 1 ((edgesAt g v).map (.int .i64)))]:=by
 refine Ctr.of (n:=38) (rs:=[.tmp 4]) Try.func46 rfl rfl Try.ntmps46 rfl rfl (by kernel_rfl) Try.checked.mixed ?_
 simp (disch:=first | omega | decide +kernel) only [D.chg,D.ints,go_sem,Qa,Qb,Qc,Qd,Qe,↓reduceIte,reduceCtorEq,Qf,Qg,Qh]
 (repeat' (first | ((first | (refine gsel_split (fun q' => ?_) (fun q' => ?_)<;>(have h':=q')<;>(try simp only [za1,za2,Ba,Bb,za3,ne_eq,za4,za5,za6,Ia,Ib,Ic,Ie,Da,Bc,Bh,Be,za7,za8] at h')) | (have q':=trivial; first | refine hE _ _ ret_ne ?_ | refine hE _ _ exit_ne ?_))<;>(try simp (disch:=first | omega | decide +kernel) only [q',go_sem,Qa,Qb,Qc,Qd,Qe,↓reduceIte,reduceCtorEq,Qf,Qg,Qh])<;>clear q') | refine hN _ ?_ ?_ Wk.kk | with_reducible refine And.intro ?_ ?_ | with_reducible omega | exact ok_ints | exact cells_ints | exact no_mem | with_reducible exact plain_ints | (refine le_maxLen ?_; omega) | (refine za9 ⟨?_,?_⟩) | (simp only [go_sem,Qc,Qb,zb1,zb2,forall_eq]; done)))
 refine Ok.loopN [36,35,34,33,32,31,30,29,28,27,26,25,24,23,22,21,20,19,18,17,16,15,14,13,12,11,10,9,8,7,6,5,3,0] (fun i _ => [(6,.d (.int .i64 (i : Nat))),(5,.sl 7)]) (fun _ (cur : List Int) => [(7,.arr 3 1 (cur.map (.int .i64)))]) g.ed.length
  (fun i cur => cur=edgesTo g v i) [] (by simp [edgesTo]) (Wk.kk) ?_
 rintro R i cur hN hE hi rfl
 have hll:=edgesTo_len g v i
 have hsu:=edgesTo_succ g v i
 by_cases hlt : i < g.ed.length
 . simp (disch:=first | omega | decide +kernel) only [el_eds,el_c0,el_c1,toNat_one,go_sem,Qa,Qb,Qc,Qd,Qe,↓reduceIte,reduceCtorEq,Qf,Qg,Qh]
   (repeat' (first | ((first | (refine gsel_split (fun q' => ?_) (fun q' => ?_)<;>(have h':=q')<;>(try simp only [za1,za2,Ba,Bb,za3,ne_eq,za4,za5,za6,Ia,Ib,Ic,Ie,Da,Bc,Bh,Be,za7,za8] at h')) | (have q':=trivial; first | refine hE _ _ ret_ne ?_ | refine hE _ _ exit_ne ?_))<;>(try simp (disch:=first | omega | decide +kernel) only [q',el_eds,el_c0,el_c1,toNat_one,go_sem,Qa,Qb,Qc,Qd,Qe,↓reduceIte,reduceCtorEq,Qf,Qg,Qh])<;>clear q') | refine hN _ ?_ ?_ Wk.kk | with_reducible refine And.intro ?_ ?_ | with_reducible omega | exact ok_ints | exact cells_ints | exact no_mem | with_reducible exact plain_ints | (refine le_maxLen ?_; omega) | (refine za9 ⟨?_,?_⟩) | (simp only [go_sem,Qc,Qb,zb1,zb2,forall_eq]; done)))
   all_goals (first | (refine hN (edgesTo g v i++[(i : Int)]) _ hlt (by rw [hsu,if_pos (by first | exact atB_1 (by assumption) | exact atB_2 (by assumption))]) (Wk.kk); done) | (refine hN (edgesTo g v i) _ hlt (by rw [hsu,if_neg (atB_n (by assumption) (by assumption))]) (Wk.kk); done))
 . obtain rfl : i=g.ed.length:=by omega
   simp (disch:=first | omega | decide +kernel) only [el_eds,el_c0,el_c1,toNat_one,go_sem,Qa,Qb,Qc,Qd,Qe,↓reduceIte,reduceCtorEq,Qf,Qg,Qh]
   (repeat' (first | ((first | (refine gsel_split (fun q' => ?_) (fun q' => ?_)<;>(have h':=q')<;>(try simp only [za1,za2,Ba,Bb,za3,ne_eq,za4,za5,za6,Ia,Ib,Ic,Ie,Da,Bc,Bh,Be,za7,za8] at h')) | (have q':=trivial; first | refine hE _ _ ret_ne ?_ | refine hE _ _ exit_ne ?_))<;>(try simp (disch:=first | omega | decide +kernel) only [q',el_eds,el_c0,el_c1,toNat_one,go_sem,Qa,Qb,Qc,Qd,Qe,↓reduceIte,reduceCtorEq,Qf,Qg,Qh])<;>clear q') | refine hN _ ?_ ?_ Wk.kk | with_reducible refine And.intro ?_ ?_ | with_reducible omega | exact ok_ints | exact cells_ints | exact no_mem | with_reducible exact plain_ints | (refine le_maxLen ?_; omega) | (refine za9 ⟨?_,?_⟩) | (simp only [go_sem,Qc,Qb,zb1,zb2,forall_eq]; done)))
   exact ret_sl 7 rfl rfl plain_ints
end Abs.Y
