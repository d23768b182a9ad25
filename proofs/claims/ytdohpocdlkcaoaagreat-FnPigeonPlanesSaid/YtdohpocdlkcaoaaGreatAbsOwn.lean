/- Owned trees in contracts: rows become trees, parts go back, what a result of that kind says. No condition. -/
import Derived.Test.YtdohpocdlkcaoaaGreatAbsRow
set_option linter.all false
namespace Abs
open Go Go.RowKit

theorem OK.deep {β S w e k es v F} (hb : ∀ x ∈ flat es,x.bare=true) (h : OK β S w (.arr e k es) v F) : OK β S w (.dp (some (e,k)) es none) v F:=by
 have hlt : ∀ g,F g->g < w.heap.size:=fun g hg => h.block_lt hg
 cases h with
 | arr hF xs hk0 hk hw hr =>
   subst hF
   exact .dp hlt (.inr ⟨e,k,xs,fun _ _ => False,.inr rfl,hk0,hk,hw,fun b hb => ⟨hb,fun _ h => h⟩,fun _ _ h => h.elim,fun _ _ _ h => h.elim,fun i hi _ => dp_bare (hb _ (by
    simp only [List.getD_eq_getElem?_getD,List.getElem?_eq_getElem hi,Option.getD_some]; exact List.getElem_mem hi)) (hr i hi),fun _ _ h => by cases h⟩)
theorem Wk.obj {N} {st : St} (j : Nat) {o o1 : AO} (hj : lk j st.o=some o) (h : ∀ β S w v F,OK β S w o v F->OK β S w o1 v F) (h0 : o.isRes=false:=by rfl) : Wk N st ⟨st.s,ins j o1 st.o⟩:=fun Z β φ B M w0 a w hs => by
 have hk : ∀ i x,lk i (ins j o1 st.o)=some x->(i=j∧x=o1)∨(i ≠ j∧lk i st.o=some x):=fun i x hi => by
  rw [lk_ins] at hi
  split at hi
  . rename_i e; cases hi; exact .inl ⟨e,rfl⟩
  . rename_i e; exact .inr ⟨e,hi⟩
 have he : ∀ i x,lk i (ins j o1 st.o)=some x->∃ y,lk i st.o=some y∧(x.isRes=false->y.isRes=false):=fun i x hi => by
  rcases hk i x hi with ⟨rfl,_⟩ | ⟨_,h2⟩
  . exact ⟨o,hj,fun _ => h0⟩
  . exact ⟨x,h2,id⟩
 have hS : ∀ g,free Z φ st.o g->g < w.heap.size->free Z φ (ins j o1 st.o) g∧w.heap[g]? = w.heap[g]? := fun g hg _ => ⟨⟨hg.1,fun i x hi hx => by
  obtain ⟨y,hy,hyr⟩:=he i x hi; exact hg.2 i y hy (hyr hx)⟩,rfl⟩
 refine ⟨β,φ,hs.nd.move hS,hs.size,fun i av hi => (hs.slots i av hi).move hS,fun i x hi => ?_,fun i x g hi hg => ?_,fun i i' x x' g hi hi' hg hg' => ?_,hs.fr,hs.z⟩
 . rcases hk i x hi with ⟨rfl,rfl⟩ | ⟨_,h2⟩
   . exact h _ _ _ _ _ ((hs.objs i o hj).move hS (Nat.le_refl _) fun _ _ => rfl)
   . exact (hs.objs i x h2).move hS (Nat.le_refl _) fun _ _ => rfl
 . obtain ⟨y,hy,_⟩:=he i x hi; exact hs.own i y g hy hg
 . obtain ⟨y,hy,_⟩:=he i x hi
   obtain ⟨y',hy',_⟩:=he i' x' hi'
   exact hs.disj i i' y y' g hy hy' hg hg'
theorem Wk.deep {N} {S : List (Nat × AV)} {O : List (Nat × AO)} (j : Nat) {e k es} (hj : lk j O=some (.arr e k es)) (hb : ∀ x ∈ flat es,x.bare=true) : Wk N ⟨S,O⟩ ⟨S,ins j (.dp (some (e,k)) es none) O⟩ :=
 Wk.obj (st:=⟨S,O⟩) j hj fun _ _ _ _ _ h => h.deep hb
theorem Wk.data {N st j o es} (hj : lk j st.o=some o) (ho : rowOf o=some es) : Wk N st (st.frz j es):=fun _ β φ _ _ _ _ _ hs => ⟨β,φ,hs.frz' hj ho⟩

theorem ret_c1 {P : Program} {a : Nat} {t : TypeId} {c : Prop} {x : D} {st : St} (h : (lk a st.s).bind (loadV P st.o t)=some (c,.d x)) (hc : c) (hu : (P.underlying t).isSome=true) : retQ P [.cell a t] true (.d x) [] .ret st:=by
 refine .inl ?_
 simp only [retO,resV,h]
 exact ⟨⟨hu,hc,trivial⟩,.nil rfl,.inl trivial⟩
theorem ret_cb {P : Program} {a j : Nat} {t e : TypeId} {cells : List AV} {ds : List D} {st : St} (h : lk a st.s=some (.p j 0)) (hj : lk j st.o=some (.box e cells)) (hag : aggT P t=true) (hn : P.cellsOf t=cells.length) (hd : allD cells=some ds) (hu : (P.underlying t).isSome=true) :
 retQ P [.cell a t] true (.d (.agg ds)) [] .ret st:=by
 refine ret_c1 (c:=0 + P.cellsOf t<=cells.length∧(P.underlying t).isSome=true) ?_ ⟨by omega,hu⟩ hu
 rw [h,Option.bind_some,loadV,hj]
 simp only [hag,if_true,List.drop_zero,hn,List.take_length,hd]

theorem lk_one {α : Type} {j : Nat} {a b : α} (h : lk j [(0,a)]=some b) : j=0∧b=a:=by
 simp only [lk] at h
 split at h
 . rename_i e; cases h; exact ⟨e,rfl⟩
 . cases h
theorem free_one {T : Nat->Prop} {φ : Nat->Nat->Prop} {a b : AO} {g : Nat} (h0 : a.isRes=false) (h : free T φ [(0,a)] g) : free T φ [(0,b)] g:=⟨h.1,fun j x hj _ => by
 obtain ⟨rfl,rfl⟩:=lk_one hj; exact h.2 0 a (by simp [lk]) h0⟩
theorem Ctr.obj {P : Program} {f : FuncId} {xs : List D} {sh : Bool} {res : AV} {o o1 : AO} (h : ∀ β S w v F,OK β S w o v F->OK β S w o1 v F) (hc : Ctr P f xs sh res [(0,o)]) (h0 : o.isRes=false:=by rfl) : Ctr P f xs sh res [(0,o1)]:=by
 refine ⟨hc.1,fun S w vs hl hr => (hc.2 S w vs hl hr).mono fun en w' ⟨v,he,hf,β,φ,h1,h2,h3,h4⟩ => ⟨v,he,hf,β,φ,h1.move fun g hg _ => ⟨free_one h0 hg,rfl⟩,fun j x hj => ?_,fun j x g hj hg => ?_,fun j j' x x' g hj hj' _ _ => ?_⟩⟩
 . obtain ⟨rfl,rfl⟩:=lk_one hj
   exact h _ _ _ _ _ ((h2 0 o (by simp [lk])).move (fun g hg _ => ⟨free_one h0 hg,rfl⟩) (Nat.le_refl _) fun _ _ => rfl)
 . obtain ⟨rfl,rfl⟩:=lk_one hj
   exact h3 0 o g (by simp [lk]) hg
 . rw [(lk_one hj).1,(lk_one hj').1]
theorem Ctr.deep {P : Program} {f : FuncId} {xs : List D} {sh : Bool} {res : AV} {e k es} (hc : Ctr P f xs sh res [(0,.arr e k es)]) (hb : ∀ x ∈ flat es,x.bare=true) : Ctr P f xs sh res [(0,.dp (some (e,k)) es none)] :=
 hc.obj fun _ _ _ _ _ h => h.deep hb

theorem bare_ints {k : IntKind} (xs : List Int) : (∀ x ∈ flat (List.map (D.int k) xs),x.bare=true)=True:=by
 refine eq_true fun x hx => ?_
 obtain ⟨y,hy,hc⟩:=List.mem_flatMap.1 hx
 obtain ⟨z,_,rfl⟩:=List.mem_map.1 hy
 have : x=.int k z:=by simpa [D.cells] using hc
 subst this; rfl
attribute [go_sem] bare_ints
theorem ret_dpd {P t u y st τ es} (j : Nat) (h : lk t st.s=some (.sl j)) (h' : lk u st.s=some (.d y)) (ho : lk j st.o=some (.dp τ es none)) (hy : y.plain=true) :
 retQ P [.tmp t,.tmp u] false (.tup [.sl 0,.d y]) [(0,.dp τ es none)] .ret st:=by
 refine .inl ?_
 simp only [retO,resV,h,h']
 exact ⟨trivial,.one j rfl ho,.inr ⟨⟨trivial,hy,trivial⟩,trivial,trivial⟩⟩
theorem ret_cst {P : Program} {a j i : Nat} {t e : TypeId} {cells cs' : List AV} {ob : AO} {st : St} (h : lk a st.s=some (.p j 0)) (hj : lk j st.o=some (.box e cells)) (hag : aggT P t=true) (hn : P.cellsOf t=cells.length) (hd : allD cells=none)
 (hu : (P.underlying t).isSome=true) (hi : lk i st.o=some ob) (hc : cells=AV.renL (fun _ => i) cs') (hp : AV.plainL cs') (hop : ob.plain) (hr : ob.ren (fun _ => i)=ob) :
 retQ P [.cell a t] false (.st cs') [(0,ob)] .ret st:=by
 refine .inl ?_
 have hl : (lk a st.s).bind (loadV P st.o t)=some (0 + P.cellsOf t<=cells.length∧(P.underlying t).isSome=true,.st cells):=by
  rw [h,Option.bind_some,loadV,hj]
  simp only [hag,if_true,List.drop_zero,hn,List.take_length,hd]
 simp only [retO,resV,hl]
 exact ⟨⟨hu,⟨by omega,hu⟩,trivial⟩,.one i (by simp only [oneOf,AV.ren,hc]) (by rw [hr]; exact hi),.inr ⟨hp,hop,trivial⟩⟩

def cntI (k : Int) : Nat->List Int
 | 0 => []
 | n + 1 => k :: cntI (k + 1) n
end Abs
namespace Abs
end Abs
namespace Abs
def cntSS : List (List Int)->Int->List (List Int)
 | [],_ => []
 | x :: r,k => cntI k x.length :: cntSS r (k + x.length)
def lenSS : List (List Int)->Nat
 | [] => 0
 | x :: r => x.length + lenSS r
def offSS (a : List (List Int)) (k : Int) (i : Nat) : Int:=k + (lenSS (a.take i) : Nat)
def lenST : List Step->Nat
 | [] => 0
 | s :: r => s.c.length + 3 + lenST r
def cntST1 (s : Step) (k : Int) : Step:=⟨cntI k s.c.length,k + s.c.length,k + s.c.length + 1,k + s.c.length + 2⟩
def cntST : List Step->Int->List Step
 | [],_ => []
 | s :: r,k => cntST1 s k :: cntST r (k + s.c.length + 3)
def offST (a : List Step) (k : Int) (i : Nat) : Int:=k + (lenST (a.take i) : Nat)
end Abs
namespace Abs
end Abs
namespace Abs
end Abs
namespace Abs
end Abs
namespace Abs
open Go Go.RowKit
theorem Wk.nilObj {N} {S : List (Nat × AV)} {O : List (Nat × AO)} (d j off : Nat) {e t : TypeId} {k : Nat} {cells : List AV} (hj : lk j (wipeO d O)=some (.box t cells)) (hn : cells.getD off .undef=.nilS) (ho : off < cells.length) (hdj : j ≠ d) (hk : 0 < k) :
 Wk N ⟨S,O⟩ ⟨wipeS d S,ins d (.arr e k []) (ins j (.box t (setL cells off [.sl d])) (wipeO d O))⟩:=fun Z β φ B M w0 a w hs => by
 have h1:=hs.kill (β':=upd β d (.slice none 0 0)) (φ':=updF φ d (ownS (.slice none 0 0))) d upd_ne updF_ne
 have g0 : Gb w w none:=Gb.refl w none
 have h2:=h1.mod (o:=.box t (setL cells off [.sl d])) (j:=j) hj (w':=w) g0 (by simp) fun S' m1 m2 => by
  have hO:=h1.objs j _ hj
  rw [upd_ne j hdj,updF_ne j hdj] at hO ⊢
  generalize β j=vj at *
  generalize φ j=Fj at *
  cases hO with
  | box hF xs hne hw hr =>
    have hxl : xs.length=cells.length:=by simpa using hw.1
    have hsl : (setL cells off [.sl d]).length=cells.length:=setL_length (by simp; omega)
    refine .box hF xs hne (by rw [hsl]; exact hw) fun i hi => ?_
    rw [hsl] at hi
    rw [setL_getD (by simp; omega)]
    split
    . rename_i hh
      simp only [List.length_singleton] at hh
      have : i=off:=by omega
      subst this
      have h3:=hr i hi
      rw [hn] at h3
      simp only [Nat.sub_self,List.getD_cons_zero]
      generalize xs.getD i Go.undef=u at *
      cases h3
      have h4:=Rel.sl (β:=upd β d (.slice none 0 0)) (S:=S') (w:=w) d
      rwa [upd_eq] at h4
    . exact m1 _ _ (hr i hi)
 have hnone : lk d (ins j (.box t (setL cells off [.sl d])) (wipeO d O))=none:=by
  rw [lk_ins,if_neg (Ne.symm hdj)]
  exact lk_kill (st:=⟨S,O⟩)
 refine ⟨_,_,h2.layNew (j:=d) (o:=.arr e k []) hnone g0 (fun g hg => by rw [updF_eq] at hg; cases hg) fun S' _ _ => ?_⟩
 rw [upd_eq,updF_eq]
 exact .arr rfl [] hk (by simp) (World.ownsRow_nil _ _ _ _) (by simp [flat])
end Abs
