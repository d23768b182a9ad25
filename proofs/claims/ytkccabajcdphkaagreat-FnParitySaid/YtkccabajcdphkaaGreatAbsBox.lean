/- What functions of this program compute, over plain data. No condition. -/
import Derived.Test.YtkccabajcdphkaaGreatAbsSimp
set_option linter.all false
namespace Abs
open Go Go.RowKit

def xc4 {α : Type} : List Nat->List (Nat × α)->List (Nat × α)
 | [],l => l
 | _ :: _,[] => []
 | k :: ks,(j,v) :: r => if k < j then (j,v) :: xc4 (k :: ks) r else if j=k then xc4 ks r else xc4 ks ((j,v) :: r)
def insL {α : Type} : List (Nat × α)->List (Nat × α)->List (Nat × α)
 | [],l => l
 | (k,v) :: r,l => ins k v (insL r l)
def xb1 {α : Type} : List (Nat × α)->List (Nat × α)->List Nat
 | [],_ => []
 | (k,_) :: r,l => if (lk k l).isSome then xb1 r l else k :: xb1 r l
def xc2 (ks : List Nat) (u : List (Nat × AV)) (ou : List (Nat × AO)) (S : List (Nat × AV)) (O : List (Nat × AO)) : St:=⟨insL u (xc4 ks S),insL ou O⟩

theorem Wk.auto {N : Nat} {S S' : List (Nat × AV)} {O O' : List (Nat × AO)} (ho : (killL (xb1 O O') ⟨S,O⟩).o=O') (hs : ∀ p ∈ S',lk p.1 (killL (xb1 O O') ⟨S,O⟩).s=some p.2) : Wk N ⟨S,O⟩ ⟨S',O'⟩:=by
 have h1 : ∀ (ks : List Nat) (st : St),Wk N st (killL ks st):=fun ks => by
  induction ks with
  | nil => exact fun st => Wk.refl
  | cons k ks ih => exact fun st => (Wk.kill k).trans (ih _)
 refine (h1 (xb1 O O') ⟨S,O⟩).trans ?_
 generalize killL (xb1 O O') ⟨S,O⟩=st at *
 obtain ⟨s,o⟩:=st
 simp only at ho hs
 subst ho
 exact Wk.sub hs

def swp (a b j : Nat) : Nat:=if j=a then b else if j=b then a else j
theorem xm1 (a b j : Nat) : swp a b (swp a b j)=j:=by unfold swp; repeat' split<;>simp_all
mutual
theorem AV.ren_swp (a b : Nat) : ∀ v : AV,(v.ren (swp a b)).ren (swp a b)=v
 | .undef => rfl
 | .d _ => rfl
 | .sl j => by simp [AV.ren,xm1]
 | .p j o => by simp [AV.ren,xm1]
 | .pe j k i o => by simp [AV.ren,xm1]
 | .mq j => by simp [AV.ren,xm1]
 | .sf j k l => by simp [AV.ren,xm1]
 | .vw j q n k => by simp [AV.ren,xm1]
 | .pv j q k i fo => by simp [AV.ren,xm1]
 | .tup xs => by simp only [AV.ren,AV.renL_swp a b xs]
 | .fn f cs => by simp only [AV.ren,AV.renL_swp a b cs]
 | .e0 => rfl
 | .hdr j u => by simp [AV.ren,xm1]
 | .nilS => rfl
 | .st xs => by simp only [AV.ren,AV.renL_swp a b xs]
theorem AV.renL_swp (a b : Nat) : ∀ vs : List AV,AV.renL (swp a b) (AV.renL (swp a b) vs)=vs
 | [] => rfl
 | x :: r => by simp only [AV.renL,AV.ren_swp a b x,AV.renL_swp a b r]
end
theorem AO.ren_swp (a b : Nat) (o : AO) : (o.ren (swp a b)).ren (swp a b)=o:=by
 cases o with
 | box e cells => simp only [AO.ren,AV.renL_swp]
 | arr e k es => rfl
 | arv e k es => rfl
 | mp q r es => rfl
 | res rs => rfl
 | arw e k es vs =>
   simp only [AO.ren,List.map_map]
   congr 1
   refine (List.map_congr_left fun p _ => ?_).trans (List.map_id _)
   simp [xm1]
 | view n => rfl
 | d1 es => rfl
 | dp t es ho => rcases ho with _ | ⟨c,_ | d⟩<;>simp [AO.ren,xm1]
def swpS (a b : Nat) : List (Nat × AV)->List (Nat × AV)
 | [] => []
 | (i,v) :: r => (i,v.ren (swp a b)) :: swpS a b r
def swpO (a b : Nat) : List (Nat × AO)->List (Nat × AO)
 | [] => []
 | (j,o) :: r => (swp a b j,o.ren (swp a b)) :: swpO a b r
theorem zr5 {a b i : Nat} : ∀ {l : List (Nat × AV)} {v},lk i (swpS a b l)=some v->lk i l=some (v.ren (swp a b))
 | (k, u) :: r, v, h => by
   simp only [swpS,lk] at h ⊢
   split at h
   . rename_i e; cases h; rw [AV.ren_swp,if_pos e]
   . rename_i e; rw [if_neg e]; exact zr5 h
theorem yg1 {a b j : Nat} : ∀ {l : List (Nat × AO)} {o},lk j (swpO a b l)=some o->lk (swp a b j) l=some (o.ren (swp a b))
 | (k, u) :: r, o, h => by
   simp only [swpO,lk] at h ⊢
   split at h
   . rename_i e; cases h; subst e; rw [xm1,if_pos rfl,AO.ren_swp]
   . rename_i e
     rw [if_neg fun e2 => e (by rw [← e2,xm1])]
     exact yg1 h
theorem Wk.swp {N : Nat} (a b : Nat) {st : St} : Wk N st ⟨swpS a b st.s,swpO a b st.o⟩:=fun Z β φ B M w0 ac w h => by
 refine ⟨fun j => β (Abs.swp a b j),fun j => φ (Abs.swp a b j),?_⟩
 have hS : ∀ g,free Z φ st.o g->g < w.heap.size->free Z (fun j => φ (Abs.swp a b j)) (swpO a b st.o) g∧w.heap[g]? = w.heap[g]? := fun g hg _ =>
  ⟨⟨hg.1,fun j o hj ho => hg.2 _ _ (yg1 hj) (zg8.trans ho)⟩,rfl⟩
 refine ⟨h.nd.move hS,h.size,fun i av hi => ?_,fun j o hj => ?_,fun j o g hj hg => h.own _ _ g (yg1 hj) hg,fun j j' o o' g hj hj' hg hg' => ?_,h.fr,h.z⟩
 . exact ((h.slots i _ (zr5 hi)).unren).move hS
 . exact ((h.objs _ _ (yg1 hj)).unren).move hS (Nat.le_refl _) fun _ _ => rfl
 . have:=h.disj _ _ _ _ g (yg1 hj) (yg1 hj') hg hg'
   rw [← xm1 a b j,this,xm1]

theorem Ok.loopU {P : Program} {N : Nat} {c : Code} {Q : Exit->St->Prop} {S : List (Nat × AV)} {O : List (Nat × AO)} {α : Type} (ks : List Nat) (u : α->List (Nat × AV)) (ou : α->List (Nat × AO)) (I : Nat->α->Prop)
 (n0 : Nat) (a0 : α) (hI : I n0 a0) (hw : Wk N ⟨S,O⟩ (xc2 ks (u a0) (ou a0) S O))
 (hr : ∀ (R : Exit->St->Prop) (n : Nat) (a : α),(∀ m a' st,m < n->I m a'->Wk N st (xc2 ks (u a') (ou a') S O)->R .normal st)->(∀ e st,e ≠ .normal->Q e st->R e st)->I n a->Awp P N c R (xc2 ks (u a) (ou a) S O)) : Ok P N (.loop c) Q ⟨S,O⟩ :=
 Ok.loop (fun n st => ∃ a,I n a∧st=xc2 ks (u a) (ou a) S O) n0 hw ⟨a0,hI,rfl⟩ fun n st ⟨a,hI,h⟩ => by
  subst h
  rw [← xj8]
  refine hr _ n a (fun m a' st h1 h2 h3 => ⟨m,_,h1,h3,a',h2,rfl⟩) (fun e st h1 h2 => ?_) hI
  cases e<;>first | exact absurd rfl h1 | exact h2

theorem Ok.loopN {P : Program} {N : Nat} {c : Code} {Q : Exit->St->Prop} {S : List (Nat × AV)} {O : List (Nat × AO)} {α : Type} (ks : List Nat) (u : Nat->α->List (Nat × AV)) (ou : Nat->α->List (Nat × AO)) (len : Nat) (I : Nat->α->Prop)
 (a0 : α) (hI : I 0 a0) (hw : Wk N ⟨S,O⟩ (xc2 ks (u 0 a0) (ou 0 a0) S O))
 (hr : ∀ (R : Exit->St->Prop) (i : Nat) (a : α),(∀ a' st,i < len->I (i + 1) a'->Wk N st (xc2 ks (u (i + 1) a') (ou (i + 1) a') S O)->R .normal st)->(∀ e st,e ≠ .normal->Q e st->R e st)->i<=len->I i a ->
  Awp P N c R (xc2 ks (u i a) (ou i a) S O)) : Ok P N (.loop c) Q ⟨S,O⟩ :=
 Ok.loopU ks (fun p : Nat × α => u p.1 p.2) (fun p => ou p.1 p.2) (fun n p => n=len - p.1∧p.1<=len∧I p.1 p.2) len (0,a0) ⟨rfl,Nat.zero_le _,hI⟩ hw
  fun R n ⟨i,a⟩ hN hE ⟨h1,h2,h3⟩ => hr R i a (fun a' st hlt hI' hw' => hN (len - (i + 1)) (i + 1,a') st (by simp only at h1 h2; omega) ⟨rfl,hlt,hI'⟩ hw') hE h2 h3
theorem Ok.loopC {P : Program} {N : Nat} {c : Code} {Q : Exit->St->Prop} {S : List (Nat × AV)} {O : List (Nat × AO)} (ks : List Nat) (u : Nat->List (Nat × AV)) (len : Nat) (I : Nat->Prop)
 (hI : I 0) (hw : Wk N ⟨S,O⟩ (xc2 ks (u 0) [] S O))
 (hr : ∀ (R : Exit->St->Prop) (i : Nat),(∀ st,i < len->I (i + 1)->Wk N st (xc2 ks (u (i + 1)) [] S O)->R .normal st)->(∀ e st,e ≠ .normal->Q e st->R e st)->i<=len->I i ->
  Awp P N c R (xc2 ks (u i) [] S O)) : Ok P N (.loop c) Q ⟨S,O⟩ :=
 Ok.loopU ks (fun i : Nat => u i) (fun _ => []) (fun n i => n=len - i∧i<=len∧I i) len 0 ⟨rfl,Nat.zero_le _,hI⟩ hw
  fun R n i hN hE ⟨h1,h2,h3⟩ => hr R i (fun st hlt hI' hw' => hN (len - (i + 1)) (i + 1) st (by omega) ⟨rfl,hlt,hI'⟩ hw') hE h2 h3

attribute [go_sem] xc4 insL xb1 xc2 swpS swpO swp
end Abs

namespace Abs
open Go Go.RowKit

theorem xb8 {k : IntKind} {xs : List Int} : ∀ y ∈ List.map (D.int k) xs,D.ok 1 y:=fun y hy => by
 obtain ⟨x,_,rfl⟩:=List.mem_map.1 hy; rw [ok_int]
theorem xa8 {k : IntKind} {xs : List Int} : ∀ y ∈ List.map (D.int k) xs,y.cells.length=1:=fun y hy => by
 obtain ⟨x,_,rfl⟩:=List.mem_map.1 hy; rfl
theorem xa7 {k : IntKind} {xs : List Int} : ∀ y ∈ List.map (D.int k) xs,y.plain=true:=fun y hy => by
 obtain ⟨x,_,rfl⟩:=List.mem_map.1 hy; rfl
theorem xa6 {α : Type} {P : α->Prop} : ∀ y,y ∈ ([] : List α)->P y:=fun _ h => by cases h
theorem xa1 {n : Nat} (h : n<=2305843009213693951) : n<=maxLen:=by unfold maxLen; omega
theorem toNat_pred (i : Nat) : ((i : Int) - 1).toNat=i - 1:=by omega
theorem xa5 : Exit.ret ≠ Exit.normal:=by simp
theorem xa2 {i : Nat} : Exit.exit i ≠ Exit.normal:=by simp

def D.intss (xs : List (List Int)) : D:=.slice (xs.map D.ints)
theorem yk5 {xs : List (List Int)} {i : Nat} (h : i < xs.length) : el (xs.map D.ints) i=.slice ((xs.getD i []).map (.int .i64)):=xv3 (f:=D.ints) [] h
structure Step where
 c : List Int
 l : Int
 r : Int
 p : Int
deriving DecidableEq
def Step.z : Step:=⟨[],0,0,0⟩
def D.step (s : Step) : D:=.agg [D.ints s.c,.int .i64 s.l,.int .i64 s.r,.int .i64 s.p]
theorem xi8 {P : Nat->Prop} {i : Nat} (h : ∀ j,j < i->P j) (h' : P i) : ∀ j,j < i + 1->P j:=fun j hj => by
 rcases Nat.lt_succ_iff_lt_or_eq.1 hj with h1 | rfl
 . exact h j h1
 . exact h'
theorem zf0 {α : Type} (z : α) {l l' : List α} (hl : l.length=l'.length) (h : ∀ j,j < l.length->l.getD j z=l'.getD j z) : l=l':=by
 apply List.ext_getElem hl
 intro j h1 h2
 have:=h j h1
 simpa [List.getD_eq_getElem?_getD,h1,h2] using this
theorem xc0 {α : Type} {z : α} {l : List α} {i : Nat} (h : i < l.length) : l.getD i z ∈ l:=by
 rw [List.getD_eq_getElem?_getD,List.getElem?_eq_getElem h]; exact List.getElem_mem h
theorem any_true {α : Type} {z : α} {p : α->Bool} {l : List α} {i : Nat} (h : i < l.length) (hp : p (l.getD i z)=true) : l.any p=true:=List.any_eq_true.2 ⟨_,xc0 h,hp⟩
theorem yx6 {α : Type} (z : α) {l : List α} {x : α} (h : x ∈ l) : ∃ j,j < l.length∧l.getD j z=x:=by
 obtain ⟨j,hj,rfl⟩:=List.getElem_of_mem h
 exact ⟨j,hj,by simp [List.getD_eq_getElem?_getD,hj]⟩
theorem any_false {α : Type} {z : α} {p : α->Bool} {l : List α} (hp : ∀ j,j < l.length->p (l.getD j z)=false) : l.any p=false:=by
 rw [List.any_eq_false]
 intro x hx
 obtain ⟨j,hj,rfl⟩:=yx6 z hx
 rw [hp j hj]; simp
theorem all_true {α : Type} {z : α} {p : α->Bool} {l : List α} (hp : ∀ j,j < l.length->p (l.getD j z)=true) : l.all p=true:=by
 rw [List.all_eq_true]
 intro x hx
 obtain ⟨j,hj,rfl⟩:=yx6 z hx
 exact hp j hj
theorem all_false {α : Type} {z : α} {p : α->Bool} {l : List α} {i : Nat} (h : i < l.length) (hp : p (l.getD i z)=false) : l.all p=false:=by
 rw [List.all_eq_false]; exact ⟨_,xc0 (z:=z) h,by rw [hp]; simp⟩
theorem zf5 {α : Type} (z : α) (l : List α) (i : Nat) (h : i < l.length) : l.drop i=l.getD i z :: l.drop (i + 1):=by
 rw [List.drop_eq_getElem_cons h,List.getD_eq_getElem?_getD,List.getElem?_eq_getElem h]; rfl
theorem xf7 {α : Type} (z : α) (l : List α) (i : Nat) (h : i < l.length) : l.take (i + 1)=l.take i++[l.getD i z]:=by
 rw [List.take_succ_eq_append_getElem h,List.getD_eq_getElem?_getD,List.getElem?_eq_getElem h]; rfl
def idxR (p : Nat->Bool) (n : Nat) : Int:=match (List.range n).find? p with | some k => (k : Nat) | none => -1
theorem idxR_some {p : Nat->Bool} {n k : Nat} (hk : k < n) (h : p k=true) (hn : ∀ j,j < k->p j=false) : idxR p n=k:=by
 have : (List.range n).find? p=some k:=by
  rw [List.find?_range_eq_some]
  exact ⟨h,by simpa using hk,fun j hj => by simp [hn j hj]⟩
 rw [idxR,this]
theorem zd8 {p : Nat->Bool} {n : Nat} (hn : ∀ j,j < n->p j=false) : idxR p n=-1:=by
 have : (List.range n).find? p=none:=by
  rw [List.find?_range_eq_none]
  exact fun j hj => by simp [hn j hj]
 rw [idxR,this]

theorem map_take' {α β : Type} (f : α->β) (l : List α) (i : Nat) : (l.map f).take i=(l.take i).map f:=by rw [List.map_take]
theorem map_drop' {α β : Type} (f : α->β) (l : List α) (i : Nat) : (l.map f).drop i=(l.drop i).map f:=by rw [List.map_drop]
attribute [go_sem] xl3 yk5 xv7 toNat_pred Int.toNat_zero Nat.sub_zero List.drop_zero map_take' map_drop'
theorem Wk.kk {N : Nat} {S S' : List (Nat × AV)} {O O' : List (Nat × AO)}
 (ho : (killL (xb1 O O') ⟨S,O⟩).o=O':=by simp [xb1,lk,killL,St.kill,xb4,xb6,AV.has,AV.hasL,AO.wipe,List.map_set,xc2,insL,xc4,ins])
 (hs : ∀ p ∈ S',lk p.1 (killL (xb1 O O') ⟨S,O⟩).s=some p.2:=by simp [xb1,lk,killL,St.kill,xb4,xb6,AV.has,AV.hasL,AO.wipe,List.map_set,xc2,insL,xc4,ins]) : Wk N ⟨S,O⟩ ⟨S',O'⟩:=Wk.auto ho hs
end Abs

namespace Abs
open Go Go.RowKit

theorem OK.deep {β S w e k es v F} (hb : ∀ x ∈ flat es,x.bare=true) (h : OK β S w (.arr e k es) v F) : OK β S w (.dp (some (e,k)) es none) v F:=by
 have hlt : ∀ g,F g->g < w.heap.size:=fun g hg => h.block_lt hg
 cases h with
 | arr hF xs hk0 hk hw hr =>
   subst hF
   exact .dp hlt (.inr ⟨e,k,xs,fun _ _ => False,.inr rfl,hk0,hk,hw,fun b hb => ⟨hb,fun _ h => h⟩,fun _ _ h => h.elim,fun _ _ _ h => h.elim,fun i hi _ => zi3 (hb _ (by
    simp only [List.getD_eq_getElem?_getD,List.getElem?_eq_getElem hi,Option.getD_some]; exact List.getElem_mem hi)) (hr i hi),fun _ _ h => by cases h⟩)
theorem Wk.obj {N} {st : St} (j : Nat) {o o1 : AO} (hj : lk j st.o=some o) (h : ∀ β S w v F,OK β S w o v F->OK β S w o1 v F) (h0 : o.isRes=false:=by rfl) : Wk N st ⟨st.s,ins j o1 st.o⟩:=fun Z β φ B M w0 a w hs => by
 have hk : ∀ i x,lk i (ins j o1 st.o)=some x->(i=j∧x=o1)∨(i ≠ j∧lk i st.o=some x):=fun i x hi => by
  rw [xe4] at hi
  split at hi
  . rename_i e; cases hi; exact .inl ⟨e,rfl⟩
  . rename_i e; exact .inr ⟨e,hi⟩
 have he : ∀ i x,lk i (ins j o1 st.o)=some x->∃ y,lk i st.o=some y∧(x.isRes=false->y.isRes=false):=fun i x hi => by
  rcases hk i x hi with ⟨rfl,_⟩ | ⟨_,h2⟩
  . exact ⟨o,hj,fun _ => h0⟩
  . exact ⟨x,h2,id⟩
 have hS : ∀ g,free Z φ st.o g->g < w.heap.size->free Z φ (ins j o1 st.o) g∧w.heap[g]? = w.heap[g]? := fun g hg _ => ⟨⟨hg.1,fun i x hi hx => by
  obtain ⟨y,hy,hyr⟩:=he i x hi; exact hg.2 i y hy (hyr hx)⟩,rfl⟩
 refine ⟨β,φ,hs.nd.move hS,hs.size,fun i av hi => (hs.slots i av hi).move hS,fun i x hi => ?_,fun i x g hi hg => ?_,fun i i' x x' g hi hi' hg hg' => ?_,hs.fr,hs.z⟩
 . rcases hk i x hi with ⟨rfl,rfl⟩ | ⟨_,h2⟩
   . exact h _ _ _ _ _ ((hs.objs i o hj).move hS (Nat.le_refl _) fun _ _ => rfl)
   . exact (hs.objs i x h2).move hS (Nat.le_refl _) fun _ _ => rfl
 . obtain ⟨y,hy,_⟩:=he i x hi; exact hs.own i y g hy hg
 . obtain ⟨y,hy,_⟩:=he i x hi
   obtain ⟨y',hy',_⟩:=he i' x' hi'
   exact hs.disj i i' y y' g hy hy' hg hg'
theorem Wk.deep {N} {S : List (Nat × AV)} {O : List (Nat × AO)} (j : Nat) {e k es} (hj : lk j O=some (.arr e k es)) (hb : ∀ x ∈ flat es,x.bare=true) : Wk N ⟨S,O⟩ ⟨S,ins j (.dp (some (e,k)) es none) O⟩ :=
 Wk.obj (st:=⟨S,O⟩) j hj fun _ _ _ _ _ h => h.deep hb
theorem Ctr.data1 {P : Program} {f : FuncId} {xs : List D} {sh : Bool} {e : TypeId} {k : Nat} {es : List D} (h : Ctr P f xs sh (.sl 0) [(0,.arr e k es)]) : Ctr P f xs true (.d (.slice es)) []:=by
 refine ⟨h.1,fun S w vs hl hr => (h.2 S w vs hl hr).mono fun en w' ⟨v,he,hf,β,φ,hrel,hobj,hown,hdis⟩ => ⟨v,he,hf,β,φ,.d ?_,by simp [lk],by simp [lk],by simp [lk]⟩⟩
 cases hrel
 exact ym5 (hobj 0 (.arr e k es) (by simp [lk])) (fun g hg _ => ⟨hg.1.imp id fun h => ⟨rfl,h.2⟩,by simp [lk]⟩) fun g hg => ⟨.inl (hown 0 (.arr e k es) g (by simp [lk]) hg),by simp [lk]⟩
theorem Ctr.dataD {P : Program} {f : FuncId} {xs : List D} {sh : Bool} {τ : Option (TypeId × Nat)} {es : List D} (h : Ctr P f xs sh (.sl 0) [(0,.dp τ es none)]) : Ctr P f xs true (.d (.slice es)) []:=by
 refine ⟨h.1,fun S w vs hl hr => (h.2 S w vs hl hr).mono fun en w' ⟨v,he,hf,β,φ,hrel,hobj,hown,hdis⟩ => ⟨v,he,hf,β,φ,.d ?_,by simp [lk],by simp [lk],by simp [lk]⟩⟩
 cases hrel
 exact zk3 (hobj 0 (.dp τ es none) (by simp [lk])) fun g hg => ⟨.inl (hown 0 (.dp τ es none) g (by simp [lk]) hg),by simp [lk]⟩
theorem zc7 {α : Type} {j : Nat} {a b : α} (h : lk j [(0,a)]=some b) : j=0∧b=a:=by
 simp only [lk] at h
 split at h
 . rename_i e; cases h; exact ⟨e,rfl⟩
 . cases h
theorem zm8 {T : Nat->Prop} {φ : Nat->Nat->Prop} {a b : AO} {g : Nat} (h0 : a.isRes=false) (h : free T φ [(0,a)] g) : free T φ [(0,b)] g:=⟨h.1,fun j x hj _ => by
 obtain ⟨rfl,rfl⟩:=zc7 hj; exact h.2 0 a (by simp [lk]) h0⟩
theorem CtrM.obj {P : Program} {f : FuncId} {avs : List AV} {oi : List (Nat × AO)} {keep : List Nat} {sh : Bool} {res : AV} {o o1 : AO} (h : ∀ β S w v F,OK β S w o v F->OK β S w o1 v F) (hc : CtrM P f avs oi keep sh res [(0,o)]) (hr0 : o.isRes=false:=by rfl) : CtrM P f avs oi keep sh res [(0,o1)]:=by
 refine ⟨hc.1,fun S β φ w vs hl hr hO hD => (hc.2 S β φ w vs hl hr hO hD).mono fun en w' ⟨v,he,hf,β',φ',h0,h1,h2,h3,h4⟩ => ⟨v,he,hf,β',φ',h0,h1.move fun g hg _ => ⟨zm8 hr0 hg,rfl⟩,fun j x hj => ?_,fun j x g hj hg => ?_,fun j j' x x' g hj hj' _ _ => ?_⟩⟩
 . obtain ⟨rfl,rfl⟩:=zc7 hj
   exact h _ _ _ _ _ ((h2 0 o (by simp [lk])).move (fun g hg _ => ⟨zm8 hr0 hg,rfl⟩) (Nat.le_refl _) fun _ _ => rfl)
 . obtain ⟨rfl,rfl⟩:=zc7 hj
   exact h3 0 o g (by simp [lk]) hg
 . rw [(zc7 hj).1,(zc7 hj').1]
theorem CtrM.deep {P : Program} {f : FuncId} {avs : List AV} {oi : List (Nat × AO)} {keep : List Nat} {sh : Bool} {res : AV} {e k es} (hc : CtrM P f avs oi keep sh res [(0,.arr e k es)]) (hb : ∀ x ∈ flat es,x.bare=true) : CtrM P f avs oi keep sh res [(0,.dp (some (e,k)) es none)] :=
 hc.obj fun _ _ _ _ _ h => h.deep hb
theorem yr0 {k : IntKind} (xs : List Int) : (∀ x ∈ flat (List.map (D.int k) xs),x.bare=true)=True:=by
 refine eq_true fun x hx => ?_
 obtain ⟨y,hy,hc⟩:=List.mem_flatMap.1 hx
 obtain ⟨z,_,rfl⟩:=List.mem_map.1 hy
 have : x=.int k z:=by simpa [D.cells] using hc
 subst this; rfl
attribute [go_sem] yr0
theorem retM_d {P t st x u ob} (h : lk t st.s=some (.d x)) (ho : lk 0 st.o=some ob) (hk : lk 1000000000 st.s=some (.hdr 0 (u 0))) (hx : x.plain=true) (hp : ob.plain) (hr : ob.ren (fun j => j)=ob) :
 retM P [.tmp t] u [0] false (.d x) [(0,ob)] .ret st:=by
 simp only [retM,resV,h]
 refine ⟨trivial,⟨fun j => j,rfl,by simpa [hr] using ho,by simp,⟨rfl,hk,trivial⟩⟩,.inr ⟨hx,hp,trivial⟩⟩
theorem ret_dp {P t st τ es} (j : Nat) (h : lk t st.s=some (.sl j)) (ho : lk j st.o=some (.dp τ es none)) : retQ P [.tmp t] false (.sl 0) [(0,.dp τ es none)] .ret st:=by
 refine .inl ?_
 simp only [retO,resV,h]; exact ⟨trivial,.one j rfl ho,.inr ⟨trivial,trivial,trivial⟩⟩
theorem callX_keep {P N f cavs st dst K} (J : Nat) {avs o res o'} (hs : CtrM P f avs [(0,o)] [0] false res [(0,o')]) (hp : ya7 P (delL [J] st.o) (nth [J]) false cavs avs) (ho : lkn J st.o=some (o.ren (nth [J])))
 (hd : dstB N dst) (hK : K (impM st dst (nth [J]) [] res [(0,o')])) : yq6 P N f cavs dst K st :=
 xy0 [J] [J] [] hs hp ⟨ho,trivial⟩ (by simp [xj9,xh7,nth]) hd hK

def cntI (k : Int) : Nat->List Int
 | 0 => []
 | n + 1 => k :: cntI (k + 1) n
end Abs
namespace Abs
end Abs
namespace Abs
def cntSS : List (List Int)->Int->List (List Int)
 | [],_ => []
 | x :: r,k => cntI k x.length :: cntSS r (k + x.length)
def zz2 : List (List Int)->Nat
 | [] => 0
 | x :: r => x.length + zz2 r
def offSS (a : List (List Int)) (k : Int) (i : Nat) : Int:=k + (zz2 (a.take i) : Nat)
def zz1 : List Step->Nat
 | [] => 0
 | s :: r => s.c.length + 3 + zz1 r
def cntST1 (s : Step) (k : Int) : Step:=⟨cntI k s.c.length,k + s.c.length,k + s.c.length + 1,k + s.c.length + 2⟩
def cntST : List Step->Int->List Step
 | [],_ => []
 | s :: r,k => cntST1 s k :: cntST r (k + s.c.length + 3)
def offST (a : List Step) (k : Int) (i : Nat) : Int:=k + (zz1 (a.take i) : Nat)
end Abs
namespace Abs
end Abs
namespace Abs
end Abs
namespace Abs
end Abs
namespace Abs
open Go Go.RowKit
theorem Wk.nilObj {N} {S : List (Nat × AV)} {O : List (Nat × AO)} (d j off : Nat) {e t : TypeId} {k : Nat} {cells : List AV} (hj : lk j (xb4 d O)=some (.box t cells)) (hn : cells.getD off .undef=.nilS) (ho : off < cells.length) (hdj : j ≠ d) (hk : 0 < k) :
 Wk N ⟨S,O⟩ ⟨xb6 d S,ins d (.arr e k []) (ins j (.box t (setL cells off [.sl d])) (xb4 d O))⟩:=fun Z β φ B M w0 a w hs => by
 have h1:=hs.kill (β':=upd β d (.slice none 0 0)) (φ':=updF φ d (ownS (.slice none 0 0))) d xf2 xf3
 have g0 : Gb w w none:=Gb.refl w none
 have h2:=h1.mod (o:=.box t (setL cells off [.sl d])) (j:=j) hj (w':=w) g0 (by simp) fun S' m1 m2 => by
  have hO:=h1.objs j _ hj
  rw [xf2 j hdj,xf3 j hdj] at hO ⊢
  generalize β j=vj at *
  generalize φ j=Fj at *
  cases hO with
  | box hF xs hne hw hr =>
    have hxl : xs.length=cells.length:=by simpa using hw.1
    have hsl : (setL cells off [.sl d]).length=cells.length:=xd5 (by simp; omega)
    refine .box hF xs hne (by rw [hsl]; exact hw) fun i hi => ?_
    rw [hsl] at hi
    rw [xe2 (by simp; omega)]
    split
    . rename_i hh
      simp only [List.length_singleton] at hh
      have : i=off:=by omega
      subst this
      have h3:=hr i hi
      rw [hn] at h3
      simp only [Nat.sub_self,List.getD_cons_zero]
      generalize xs.getD i Go.undef=u at *
      cases h3
      have h4:=Rel.sl (β:=upd β d (.slice none 0 0)) (S:=S') (w:=w) d
      rwa [xg7] at h4
    . exact m1 _ _ (hr i hi)
 have hnone : lk d (ins j (.box t (setL cells off [.sl d])) (xb4 d O))=none:=by
  rw [xe4,if_neg (Ne.symm hdj)]
  exact zr6 (st:=⟨S,O⟩)
 refine ⟨_,_,h2.layNew (j:=d) (o:=.arr e k []) hnone g0 (fun g hg => by rw [xd7] at hg; cases hg) fun S' _ _ => ?_⟩
 rw [xg7,xd7]
 exact .arr rfl [] hk (by simp) (World.ownsRow_nil _ _ _ _) (by simp [flat])
end Abs

namespace Abs
open Go Go.RowKit

mutual
def AV.bfz (j : Nat) (x : D) : AV->AV
 | .sl i => if i=j then .undef else .sl i
 | .p i o => if i=j then (if o=0 then .d (.ptr x) else .undef) else .p i o
 | .pe i k n o => if i=j then .undef else .pe i k n o
 | .mq i => if i=j then .undef else .mq i
 | .sf i k l => if i=j then .undef else .sf i k l
 | .vw i q n k => if q=j then .undef else .vw i q n k
 | .pv i q k n o => if q=j then .undef else .pv i q k n o
 | .tup xs => .tup (AV.bfzL j x xs)
 | .st xs => .st (AV.bfzL j x xs)
 | .fn f cs => .fn f (AV.bfzL j x cs)
 | y => y
def AV.bfzL (j : Nat) (x : D) : List AV->List AV
 | [] => []
 | y :: r => y.bfz j x :: AV.bfzL j x r
end
theorem xi0 {j x} : ∀ xs : List AV,(AV.bfzL j x xs).length=xs.length
 | [] => rfl
 | y :: r => by simp [AV.bfzL,xi0 r]
theorem xy1 {j x} : ∀ (xs : List AV) (i : Nat),(AV.bfzL j x xs).getD i .undef=(xs.getD i .undef).bfz j x
 | [],i => by simp [AV.bfzL,AV.bfz]
 | y :: r,0 => by simp [AV.bfzL]
 | y :: r,i + 1 => by simpa [AV.bfzL] using xy1 r i
def bfzS (j : Nat) (x : D) : List (Nat × AV)->List (Nat × AV)
 | [] => []
 | (k,v) :: r => (k,v.bfz j x) :: bfzS j x r
def AO.bfz (j : Nat) (x : D) : AO->AO
 | .box e cells => .box e (AV.bfzL j x cells)
 | .dp t xs (some (c,some d)) => .dp t xs (if d=j then some (c,none) else some (c,some d))
 | y => y
def bfzO (j : Nat) (x : D) : List (Nat × AO)->List (Nat × AO)
 | [] => []
 | (k,v) :: r => if k=j then bfzO j x r else (k,v.bfz j x) :: bfzO j x r
theorem zr9 {i j x} : ∀ {l : List (Nat × AV)} {v},lk i (bfzS j x l)=some v->∃ u,lk i l=some u∧v=u.bfz j x
 | [],_,h => by simp [bfzS,lk] at h
 | (k, u) :: r, v, h => by
   simp only [bfzS,lk] at h
   simp only [lk]
   split at h
   . rename_i e; rw [if_pos e]; cases h; exact ⟨u,rfl,rfl⟩
   . rename_i e; rw [if_neg e]; exact zr9 h
theorem xw7 {i j x} : ∀ {l : List (Nat × AO)} {o},lk i (bfzO j x l)=some o->i ≠ j∧∃ o',lk i l=some o'∧o=o'.bfz j x
 | [],_,h => by simp [bfzO,lk] at h
 | (k, v) :: r, o, h => by
   simp only [bfzO] at h
   split at h
   . rename_i hk
     obtain ⟨h1,o',h2,h3⟩:=xw7 h
     exact ⟨h1,o',by simp only [lk]; rw [if_neg (by omega)]; exact h2,h3⟩
   . rename_i hk
     simp only [lk] at h
     split at h
     . rename_i e; subst e; cases h; exact ⟨hk,v,by simp [lk],rfl⟩
     . rename_i e
       obtain ⟨h1,o',h2,h3⟩:=xw7 h
       exact ⟨h1,o',by simp only [lk]; rw [if_neg e]; exact h2,h3⟩
theorem Rel.bfz {β S w j x b n c} (hb : β j=.slice (some ⟨b,0,none⟩) n c) (hr : Rd S w (.ptr x) (.pointer (some ⟨b,0,none⟩))) : ∀ {av v},Rel β S w av v->Rel β S w (av.bfz j x) v:=by
 intro av v h
 induction h with
 | undef v => exact .undef v
 | d h => exact .d h
 | sl i =>
   simp only [AV.bfz]; split
   . exact .undef _
   . exact .sl i
 | p h =>
   simp only [AV.bfz]; split
   . rename_i e; subst e
     rw [hb] at h; cases h
     split
     . rename_i e0; subst e0; exact .d hr
     . exact .undef _
   . exact .p h
 | pe h =>
   simp only [AV.bfz]; split
   . exact .undef _
   . exact .pe h
 | mq h =>
   simp only [AV.bfz]; split
   . exact .undef _
   . exact .mq h
 | sf h hl =>
   simp only [AV.bfz]; split
   . exact .undef _
   . exact .sf h hl
 | vw h =>
   simp only [AV.bfz]; split
   . exact .undef _
   . exact .vw h
 | pv h =>
   simp only [AV.bfz]; split
   . exact .undef _
   . exact .pv h
 | tup hl _ ih => exact .tup (by rw [xi0]; exact hl) fun i hi => by rw [xi0] at hi; rw [xy1]; exact ih i hi
 | fn hl _ ih => exact .fn (by rw [xi0]; exact hl) fun i hi => by rw [xi0] at hi; rw [xy1]; exact ih i hi
 | e0n => exact .e0n
 | e0s ad => exact .e0s ad
 | hdr h => exact .hdr h
 | nilS => exact .nilS
 | st hl _ ih => exact .st (by rw [xi0]; exact hl) fun i hi => by rw [xi0] at hi; rw [xy1]; exact ih i hi
theorem OK.bfz {β S w j x b n c o v F} (hb : β j=.slice (some ⟨b,0,none⟩) n c) (hr : Rd S w (.ptr x) (.pointer (some ⟨b,0,none⟩))) (h : OK β S w o v F) : OK β S w (o.bfz j x) v F:=by
 cases h with
 | box hF xs hv hw hrel =>
   exact .box hF xs hv (by rw [xi0]; exact hw) fun i hi => by rw [xi0] at hi; rw [xy1]; exact (hrel i hi).bfz hb hr
 | arr hF xs hk0 hk hw hrel => exact .arr hF xs hk0 hk hw hrel
 | arv hF xs hv hk0 hk hw hrel => exact .arv hF xs hv hk0 hk hw hrel
 | mp b ms c hF hv hbb he => exact .mp b ms c hF hv hbb he
 | res hv hlt fs hr2 hf hd => exact .res hv hlt fs hr2 hf hd
 | arw hlt xs hk0 hk hw hbb hr2 hv => exact .arw hlt xs hk0 hk hw hbb hr2 hv
 | view hF b c hv => exact .view hF b c hv
 | d1 hlt h => exact .d1 hlt h
 | dp hlt h =>
   rename_i t xs ho
   rcases h with ⟨rfl,rfl,rfl,h⟩ | ⟨e,k,ys,fs,ht,h⟩
   . exact .dp hlt (.inl ⟨rfl,rfl,rfl,h⟩)
   . rcases ho with _ | ⟨c',_ | d⟩
     . exact .dp hlt (.inr ⟨e,k,ys,fs,ht,h⟩)
     . exact .dp hlt (.inr ⟨e,k,ys,fs,ht,h⟩)
     . simp only [AO.bfz]
       split
       . exact .dp hlt (.inr ⟨e,k,ys,fs,ht,{ h with hr:=fun i hi hn => h.hr i hi fun c' d' e => by cases e; exact hn _ none rfl,hh:=fun _ _ h => by cases h }⟩)
       . exact .dp hlt (.inr ⟨e,k,ys,fs,ht,h⟩)
theorem bfz_res {j x} {o : AO} (h : (o.bfz j x).isRes=false) : o.isRes=false:=by
 cases o<;>first | rfl | exact h
theorem Wk.bfz {N} {S : List (Nat × AV)} {O : List (Nat × AO)} (j : Nat) (x : D) {e : TypeId} {cells : List AV} (hj : lk j O=some (.box e cells)) (hx : cells=x.cells.map .d) : Wk N ⟨S,O⟩ ⟨bfzS j x S,bfzO j x O⟩:=fun Z β φ B M w0 a w h => by
 subst hx
 have hO:=h.objs j _ hj
 have hS : ∀ g,free Z φ O g->g < w.heap.size->free Z φ (bfzO j x O) g∧w.heap[g]? = w.heap[g]? := fun g hg _ => by
  refine ⟨⟨hg.1,fun i y hi hy => ?_⟩,rfl⟩
  obtain ⟨hne,o',ho',rfl⟩:=xw7 hi
  exact hg.2 i o' ho' (bfz_res hy)
 obtain ⟨b,c,hb,hr⟩ : ∃ b c,β j=.slice (some ⟨b,0,none⟩) 1 c∧Rd (free Z φ (bfzO j x O)) w (.ptr x) (.pointer (some ⟨b,0,none⟩)):=by
  have hdis : ∀ g,φ j g->free Z φ (bfzO j x O) g:=fun g hg => ⟨h.z g (h.own j _ g hj hg),fun i y hi _ hgi => by
   obtain ⟨hne,o',ho',_⟩:=xw7 hi
   exact hne (h.disj i j o' _ g ho' hj hgi hg)⟩
  generalize φ j=F at *
  generalize β j=v at *
  cases hO with
  | box hF xs hv hw hrel =>
    have hw':=hw
    rcases hw.2 with ⟨h1,_⟩ | ⟨g,cap,cur,h1,_,h3,h4,_⟩
    . exact absurd h1 hv
    . subst h1
      refine ⟨g,cap,rfl,.ptr (fun i => xs.getD i Go.undef) (fun i hi => ⟨hdis g (by rw [hF]; rfl),?_⟩) fun i hi => ?_⟩
      . have h9 : i < xs.length:=by rw [hw'.1,Nat.one_mul,List.length_map]; exact hi
        have h10:=xc3 hw' rfl h9
        rwa [Nat.zero_add]
      . have h5:=hrel i (by simpa using hi)
        have h6 : (x.cells.map AV.d).getD i .undef=.d (x.cells.getD i .nilptr):=by
         simp [List.getD_eq_getElem?_getD,hi]
        rw [h6] at h5
        cases h5 with
        | d h5 => exact h5.move hS
 refine ⟨β,φ,h.nd.move hS,h.size,fun i av hi => ?_,fun i o hi => ?_,fun i o g hi hg => ?_,fun i i' o o' g hi hi' hg hg' => ?_,h.fr,h.z⟩
 . obtain ⟨u,hu,rfl⟩:=zr9 hi
   exact ((h.slots i u hu).move hS).bfz hb hr
 . obtain ⟨hne,o',ho',rfl⟩:=xw7 hi
   exact ((h.objs i o' ho').move hS (Nat.le_refl _) (fun _ _ => rfl)).bfz hb hr
 . obtain ⟨hne,o',ho',_⟩:=xw7 hi
   exact h.own i o' g ho' hg
 . obtain ⟨hne,y,hy,_⟩:=xw7 hi
   obtain ⟨hne',y',hy',_⟩:=xw7 hi'
   exact h.disj i i' y y' g hy hy' hg hg'
def cutQ (P : Program) (N : Nat) (y : Code) (Q : Exit->St->Prop) (st : St) : Prop:=∃ st',Wk N st st'∧Awp P N y Q st'
theorem Awp.cut {P : Program} {N : Nat} {x y : Code} {Q : Exit->St->Prop} {st : St} (h : Awp P N x (seqQ (cutQ P N y Q) Q) st) : Ok P N (.seq x y) Q st:=fun h1 h2 Z B M w0 a w hs => by
 simp only [xh4,Bool.and_eq_true] at h1
 rw [xj8] at h
 refine xk9 x (xg9 x _ _ h h1.1 h2 Z B M w0 a w hs) fun e a' w' hl => ?_
 cases e with
 | normal =>
   simp only [lift] at hl
   obtain ⟨st1,hs1,st2,hw,hy⟩:=hl
   rw [xj8] at hy
   obtain ⟨_,_,hB⟩:=hs1
   exact xg9 y _ _ hy h1.2 h2 Z B M w0 a' w' (hw _ _ _ _ _ _ _ _ hB)
 | exit id => exact hl
 | ret => exact hl
 | _ => exact hl
theorem Ctr.tupN {P : Program} {f : FuncId} {xs ys : List D} {sh : Bool} (h : Ctr P f xs sh (.tup (ys.map .d)) []) : Ctr P f xs sh (.d (.tup ys)) []:=by
 refine ⟨h.1,fun S w vs hvl hvr => (h.2 S w vs hvl hvr).mono fun e w' ⟨v,he,hF,β,φ,hR,h1,h2,h3⟩ => ⟨v,he,hF,β,φ,?_,h1,h2,h3⟩⟩
 cases hR with
 | tup hl hr =>
   refine .d (.tup (by simpa using hl) fun i hi => ?_)
   have:=hr i (by simpa using hi)
   have e : (ys.map AV.d).getD i .undef=.d (ys.getD i .nilptr):=by simp [List.getD_eq_getElem?_getD,hi]
   rw [e] at this
   cases this with
   | d h => exact h
theorem zv8 {P : Program} {u : Nat->Value} {sh : Bool} {ob : AO} {st : St} (ho : lk 0 st.o=some ob) (hk : lk 1000000000 st.s=some (.hdr 0 (u 0))) (hr : ob.ren (fun j => j)=ob) (hs : sh=true∨ob.plain) : retM P [] u [0] sh (.tup []) [(0,ob)] .ret st:=by
 simp only [retM,resV]
 refine ⟨trivial,⟨fun j => j,rfl,by simpa [hr] using ho,by simp,⟨rfl,hk,trivial⟩⟩,?_⟩
 rcases hs with rfl | hs
 . exact .inl rfl
 . exact .inr ⟨trivial,hs,trivial⟩
theorem retM_n {P : Program} {u : Nat->Value} {sh : Bool} {ob : AO} {st : St} (ho : lk 0 st.o=some ob) (hk : lk 1000000000 st.s=some (.hdr 0 (u 0))) (hr : ob.ren (fun j => j)=ob) (hs : sh=true∨ob.plain) : retM P [] u [0] sh (.tup []) [(0,ob)] .normal st :=
 zv8 (P:=P) ho hk hr hs
end Abs
