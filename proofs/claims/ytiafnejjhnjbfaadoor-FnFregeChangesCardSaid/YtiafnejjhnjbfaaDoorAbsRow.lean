/- What functions of this program compute, over plain data. No condition. -/
import Derived.Test.YtiafnejjhnjbfaaDoorAbsSimp
import Derived.ProofKit
import Derived.OpenShut
import Derived.ShutString
import Derived.ChangeOld
import Derived.Below
import Derived.Deep.Slices
set_option linter.all false
namespace Abs
open Go Go.RowKit

def dropS {α : Type} : List Nat->List (Nat × α)->List (Nat × α)
 | [],l => l
 | _ :: _,[] => []
 | k :: ks,(j,v) :: r => if k < j then (j,v) :: dropS (k :: ks) r else if j=k then dropS ks r else dropS ks ((j,v) :: r)
def insL {α : Type} : List (Nat × α)->List (Nat × α)->List (Nat × α)
 | [],l => l
 | (k,v) :: r,l => ins k v (insL r l)
def extraK {α : Type} : List (Nat × α)->List (Nat × α)->List Nat
 | [],_ => []
 | (k,_) :: r,l => if (lk k l).isSome then extraK r l else k :: extraK r l
def updSt (ks : List Nat) (u : List (Nat × AV)) (ou : List (Nat × AO)) (S : List (Nat × AV)) (O : List (Nat × AO)) : St:=⟨insL u (dropS ks S),insL ou O⟩

theorem Wk.auto {N : Nat} {S S' : List (Nat × AV)} {O O' : List (Nat × AO)} (ho : (killL (extraK O O') ⟨S,O⟩).o=O') (hs : ∀ p ∈ S',lk p.1 (killL (extraK O O') ⟨S,O⟩).s=some p.2) : Wk N ⟨S,O⟩ ⟨S',O'⟩:=by
 have h1 : ∀ (ks : List Nat) (st : St),Wk N st (killL ks st):=fun ks => by
  induction ks with
  | nil => exact fun st => Wk.refl
  | cons k ks ih => exact fun st => (Wk.kill k).trans (ih _)
 refine (h1 (extraK O O') ⟨S,O⟩).trans ?_
 generalize killL (extraK O O') ⟨S,O⟩=st at *
 obtain ⟨s,o⟩:=st
 simp only at ho hs
 subst ho
 exact Wk.sub hs

def swp (a b j : Nat) : Nat:=if j=a then b else if j=b then a else j
theorem swp_swp (a b j : Nat) : swp a b (swp a b j)=j:=by unfold swp; repeat' split<;>simp_all
mutual
theorem AV.ren_swp (a b : Nat) : ∀ v : AV,(v.ren (swp a b)).ren (swp a b)=v
 | .undef => rfl
 | .d _ => rfl
 | .sl j => by simp [AV.ren,swp_swp]
 | .p j o => by simp [AV.ren,swp_swp]
 | .pe j k i o => by simp [AV.ren,swp_swp]
 | .mq j => by simp [AV.ren,swp_swp]
 | .sf j k l => by simp [AV.ren,swp_swp]
 | .vw j q n k => by simp [AV.ren,swp_swp]
 | .pv j q k i fo => by simp [AV.ren,swp_swp]
 | .tup xs => by simp only [AV.ren,AV.renL_swp a b xs]
 | .fn f cs => by simp only [AV.ren,AV.renL_swp a b cs]
 | .e0 => rfl
 | .hdr j u => by simp [AV.ren,swp_swp]
 | .nilS => rfl
 | .st xs => by simp only [AV.ren,AV.renL_swp a b xs]
theorem AV.renL_swp (a b : Nat) : ∀ vs : List AV,AV.renL (swp a b) (AV.renL (swp a b) vs)=vs
 | [] => rfl
 | x :: r => by simp only [AV.renL,AV.ren_swp a b x,AV.renL_swp a b r]
end
theorem AO.ren_swp (a b : Nat) (o : AO) : (o.ren (swp a b)).ren (swp a b)=o:=by
 cases o with
 | box e cells => simp only [AO.ren,AV.renL_swp]
 | arr e k es => rfl
 | arv e k es => rfl
 | mp q r es => rfl
 | res rs => rfl
 | arw e k es vs =>
   simp only [AO.ren,List.map_map]
   congr 1
   refine (List.map_congr_left fun p _ => ?_).trans (List.map_id _)
   simp [swp_swp]
 | view n => rfl
 | d1 es => rfl
 | dp t es ho => rcases ho with _ | ⟨c,_ | d⟩<;>simp [AO.ren,swp_swp]
def swpS (a b : Nat) : List (Nat × AV)->List (Nat × AV)
 | [] => []
 | (i,v) :: r => (i,v.ren (swp a b)) :: swpS a b r
def swpO (a b : Nat) : List (Nat × AO)->List (Nat × AO)
 | [] => []
 | (j,o) :: r => (swp a b j,o.ren (swp a b)) :: swpO a b r
theorem lk_swpS {a b i : Nat} : ∀ {l : List (Nat × AV)} {v},lk i (swpS a b l)=some v->lk i l=some (v.ren (swp a b))
 | (k, u) :: r, v, h => by
   simp only [swpS,lk] at h ⊢
   split at h
   . rename_i e; cases h; rw [AV.ren_swp,if_pos e]
   . rename_i e; rw [if_neg e]; exact lk_swpS h
theorem lk_swpO {a b j : Nat} : ∀ {l : List (Nat × AO)} {o},lk j (swpO a b l)=some o->lk (swp a b j) l=some (o.ren (swp a b))
 | (k, u) :: r, o, h => by
   simp only [swpO,lk] at h ⊢
   split at h
   . rename_i e; cases h; subst e; rw [swp_swp,if_pos rfl,AO.ren_swp]
   . rename_i e
     rw [if_neg fun e2 => e (by rw [← e2,swp_swp])]
     exact lk_swpO h
theorem Wk.swp {N : Nat} (a b : Nat) {st : St} : Wk N st ⟨swpS a b st.s,swpO a b st.o⟩:=fun Z β φ B M w0 ac w h => by
 refine ⟨fun j => β (Abs.swp a b j),fun j => φ (Abs.swp a b j),?_⟩
 have hS : ∀ g,free Z φ st.o g->g < w.heap.size->free Z (fun j => φ (Abs.swp a b j)) (swpO a b st.o) g∧w.heap[g]? = w.heap[g]? := fun g hg _ =>
  ⟨⟨hg.1,fun j o hj ho => hg.2 _ _ (lk_swpO hj) (ren_res.trans ho)⟩,rfl⟩
 refine ⟨h.nd.move hS,h.size,fun i av hi => ?_,fun j o hj => ?_,fun j o g hj hg => h.own _ _ g (lk_swpO hj) hg,fun j j' o o' g hj hj' hg hg' => ?_,h.fr,h.z,h.gw⟩
 . exact ((h.slots i _ (lk_swpS hi)).unren).move hS
 . exact ((h.objs _ _ (lk_swpO hj)).unren).move hS (Nat.le_refl _) fun _ _ => rfl
 . have:=h.disj _ _ _ _ g (lk_swpO hj) (lk_swpO hj') hg hg'
   rw [← swp_swp a b j,this,swp_swp]

theorem Ok.loopU {P : Program} {N : Nat} {c : Code} {Q : Exit->St->Prop} {S : List (Nat × AV)} {O : List (Nat × AO)} {α : Type} (ks : List Nat) (u : α->List (Nat × AV)) (ou : α->List (Nat × AO)) (I : Nat->α->Prop)
 (n0 : Nat) (a0 : α) (hI : I n0 a0) (hw : Wk N ⟨S,O⟩ (updSt ks (u a0) (ou a0) S O))
 (hr : ∀ (R : Exit->St->Prop) (n : Nat) (a : α),(∀ m a' st,m < n->I m a'->Wk N st (updSt ks (u a') (ou a') S O)->R .normal st)->(∀ e st,e ≠ .normal->Q e st->R e st)->I n a->Awp P N c R (updSt ks (u a) (ou a) S O)) : Ok P N (.loop c) Q ⟨S,O⟩ :=
 Ok.loop (fun n st => ∃ a,I n a∧st=updSt ks (u a) (ou a) S O) n0 hw ⟨a0,hI,rfl⟩ fun n st ⟨a,hI,h⟩ => by
  subst h
  rw [← Awp_eq]
  refine hr _ n a (fun m a' st h1 h2 h3 => ⟨m,_,h1,h3,a',h2,rfl⟩) (fun e st h1 h2 => ?_) hI
  cases e<;>first | exact absurd rfl h1 | exact h2

theorem Ok.loopN {P : Program} {N : Nat} {c : Code} {Q : Exit->St->Prop} {S : List (Nat × AV)} {O : List (Nat × AO)} {α : Type} (ks : List Nat) (u : Nat->α->List (Nat × AV)) (ou : Nat->α->List (Nat × AO)) (len : Nat) (I : Nat->α->Prop)
 (a0 : α) (hI : I 0 a0) (hw : Wk N ⟨S,O⟩ (updSt ks (u 0 a0) (ou 0 a0) S O))
 (hr : ∀ (R : Exit->St->Prop) (i : Nat) (a : α),(∀ a' st,i < len->I (i + 1) a'->Wk N st (updSt ks (u (i + 1) a') (ou (i + 1) a') S O)->R .normal st)->(∀ e st,e ≠ .normal->Q e st->R e st)->i<=len->I i a ->
  Awp P N c R (updSt ks (u i a) (ou i a) S O)) : Ok P N (.loop c) Q ⟨S,O⟩ :=
 Ok.loopU ks (fun p : Nat × α => u p.1 p.2) (fun p => ou p.1 p.2) (fun n p => n=len - p.1∧p.1<=len∧I p.1 p.2) len (0,a0) ⟨rfl,Nat.zero_le _,hI⟩ hw
  fun R n ⟨i,a⟩ hN hE ⟨h1,h2,h3⟩ => hr R i a (fun a' st hlt hI' hw' => hN (len - (i + 1)) (i + 1,a') st (by simp only at h1 h2; omega) ⟨rfl,hlt,hI'⟩ hw') hE h2 h3
theorem Ok.loopC {P : Program} {N : Nat} {c : Code} {Q : Exit->St->Prop} {S : List (Nat × AV)} {O : List (Nat × AO)} (ks : List Nat) (u : Nat->List (Nat × AV)) (len : Nat) (I : Nat->Prop)
 (hI : I 0) (hw : Wk N ⟨S,O⟩ (updSt ks (u 0) [] S O))
 (hr : ∀ (R : Exit->St->Prop) (i : Nat),(∀ st,i < len->I (i + 1)->Wk N st (updSt ks (u (i + 1)) [] S O)->R .normal st)->(∀ e st,e ≠ .normal->Q e st->R e st)->i<=len->I i ->
  Awp P N c R (updSt ks (u i) [] S O)) : Ok P N (.loop c) Q ⟨S,O⟩ :=
 Ok.loopU ks (fun i : Nat => u i) (fun _ => []) (fun n i => n=len - i∧i<=len∧I i) len 0 ⟨rfl,Nat.zero_le _,hI⟩ hw
  fun R n i hN hE ⟨h1,h2,h3⟩ => hr R i (fun st hlt hI' hw' => hN (len - (i + 1)) (i + 1) st (by omega) ⟨rfl,hlt,hI'⟩ hw') hE h2 h3

attribute [go_sem] dropS insL extraK updSt swpS swpO swp
end Abs

namespace Abs
open Go Go.RowKit

theorem ok_ints {k : IntKind} {xs : List Int} : ∀ y ∈ List.map (D.int k) xs,D.ok 1 y:=fun y hy => by
 obtain ⟨x,_,rfl⟩:=List.mem_map.1 hy; rw [ok_int]
theorem cells_ints {k : IntKind} {xs : List Int} : ∀ y ∈ List.map (D.int k) xs,y.cells.length=1:=fun y hy => by
 obtain ⟨x,_,rfl⟩:=List.mem_map.1 hy; rfl
theorem plain_ints {k : IntKind} {xs : List Int} : ∀ y ∈ List.map (D.int k) xs,y.plain=true:=fun y hy => by
 obtain ⟨x,_,rfl⟩:=List.mem_map.1 hy; rfl
theorem no_mem {α : Type} {P : α->Prop} : ∀ y,y ∈ ([] : List α)->P y:=fun _ h => by cases h
theorem le_maxLen {n : Nat} (h : n<=2305843009213693951) : n<=maxLen:=by unfold maxLen; omega
theorem ret_ne : Exit.ret ≠ Exit.normal:=by simp
theorem exit_ne {i : Nat} : Exit.exit i ≠ Exit.normal:=by simp

def D.intss (xs : List (List Int)) : D:=.slice (xs.map D.ints)
structure Step where
 c : List Int
 l : Int
 r : Int
 p : Int
deriving DecidableEq
def Step.z : Step:=⟨[],0,0,0⟩
def D.step (s : Step) : D:=.agg [D.ints s.c,.int .i64 s.l,.int .i64 s.r,.int .i64 s.p]
theorem all_succ {P : Nat->Prop} {i : Nat} (h : ∀ j,j < i->P j) (h' : P i) : ∀ j,j < i + 1->P j:=fun j hj => by
 rcases Nat.lt_succ_iff_lt_or_eq.1 hj with h1 | rfl
 . exact h j h1
 . exact h'
theorem getD_mem {α : Type} {z : α} {l : List α} {i : Nat} (h : i < l.length) : l.getD i z ∈ l:=by
 rw [List.getD_eq_getElem?_getD,List.getElem?_eq_getElem h]; exact List.getElem_mem h
theorem mem_getD {α : Type} (z : α) {l : List α} {x : α} (h : x ∈ l) : ∃ j,j < l.length∧l.getD j z=x:=by
 obtain ⟨j,hj,rfl⟩:=List.getElem_of_mem h
 exact ⟨j,hj,by simp [List.getD_eq_getElem?_getD,hj]⟩
theorem all_true {α : Type} {z : α} {p : α->Bool} {l : List α} (hp : ∀ j,j < l.length->p (l.getD j z)=true) : l.all p=true:=by
 rw [List.all_eq_true]
 intro x hx
 obtain ⟨j,hj,rfl⟩:=mem_getD z hx
 exact hp j hj
theorem all_false {α : Type} {z : α} {p : α->Bool} {l : List α} {i : Nat} (h : i < l.length) (hp : p (l.getD i z)=false) : l.all p=false:=by
 rw [List.all_eq_false]; exact ⟨_,getD_mem (z:=z) h,by rw [hp]; simp⟩
theorem drop_cons {α : Type} (z : α) (l : List α) (i : Nat) (h : i < l.length) : l.drop i=l.getD i z :: l.drop (i + 1):=by
 rw [List.drop_eq_getElem_cons h,List.getD_eq_getElem?_getD,List.getElem?_eq_getElem h]; rfl
theorem take_succ {α : Type} (z : α) (l : List α) (i : Nat) (h : i < l.length) : l.take (i + 1)=l.take i++[l.getD i z]:=by
 rw [List.take_succ_eq_append_getElem h,List.getD_eq_getElem?_getD,List.getElem?_eq_getElem h]; rfl
def idxR (p : Nat->Bool) (n : Nat) : Int:=match (List.range n).find? p with | some k => (k : Nat) | none => -1
theorem idxR_some {p : Nat->Bool} {n k : Nat} (hk : k < n) (h : p k=true) (hn : ∀ j,j < k->p j=false) : idxR p n=k:=by
 have : (List.range n).find? p=some k:=by
  rw [List.find?_range_eq_some]
  exact ⟨h,by simpa using hk,fun j hj => by simp [hn j hj]⟩
 rw [idxR,this]
theorem idxR_none {p : Nat->Bool} {n : Nat} (hn : ∀ j,j < n->p j=false) : idxR p n=-1:=by
 have : (List.range n).find? p=none:=by
  rw [List.find?_range_eq_none]
  exact fun j hj => by simp [hn j hj]
 rw [idxR,this]

attribute [go_sem] el_ints wrap_of Int.toNat_zero Nat.sub_zero List.drop_zero
theorem Wk.kk {N : Nat} {S S' : List (Nat × AV)} {O O' : List (Nat × AO)}
 (ho : (killL (extraK O O') ⟨S,O⟩).o=O':=by simp [extraK,lk,killL,St.kill,wipeO,wipeS,AV.has,AV.hasL,AO.wipe,List.map_set,updSt,insL,dropS,ins])
 (hs : ∀ p ∈ S',lk p.1 (killL (extraK O O') ⟨S,O⟩).s=some p.2:=by simp [extraK,lk,killL,St.kill,wipeO,wipeS,AV.has,AV.hasL,AO.wipe,List.map_set,updSt,insL,dropS,ins]) : Wk N ⟨S,O⟩ ⟨S',O'⟩:=Wk.auto ho hs
end Abs

namespace Abs
open Go Go.RowKit Go.ChangeShapes Go.WideShapes Go.ChangeAt Go.Deep

def OpC (P : Program) (t : TypeId) (agg : Bool) (R : D->Prop) : Prop :=
 ∀ (H : Type) (enc : TypeId × Value->H) (w : World) (fuel : Nat) (cs : List Value) (y : DataW H × List MemPlace),DataW.trod enc P w 0 (fun _ => true) true fuel t cs=some y ->
  ∃ x : D,x.isAgg=agg∧x.cells.length=cs.length∧cs.length=P.cellsOf t∧(∀ i,i < cs.length->Rd (fun _ => True) w (x.cells.getD i .nilptr) (cs.getD i Go.undef))∧R x

def OpV (P : Program) (t : TypeId) (R : D->Prop) : Prop :=
 ∀ (H : Type) (enc : TypeId × Value->H) (w : World) (v : Value) (d : DataW H) (p : List MemPlace),Value.okWide P w .any 0 t v->DataW.Trod enc P w 0 (fun _ => true) true t v d p->∃ x : D,Rd (fun _ => True) w x v∧R x

theorem one_op {w : World} {x : D} {v : Value} (hx : x.isAgg=false) (h : Rd (fun _ => True) w x v) :
 x.cells.length=[v].length∧∀ i,i < [v].length->Rd (fun _ => True) w (x.cells.getD i .nilptr) ([v].getD i Go.undef):=by
 have e : x.cells=[x]:=by cases x<;>simp_all [D.cells,D.isAgg]
 rw [e]
 refine ⟨rfl,fun i hi => ?_⟩
 obtain rfl : i=0:=by simpa using hi
 exact h

def isI64 (x : D) : Prop:=∃ n : Int,x=.int .i64 n∧-9223372036854775808<=n∧n<=9223372036854775807
def isBool (x : D) : Prop:=∃ b : Bool,x=.bool b
def isStr (x : D) : Prop:=∃ s : ByteArray,x=.str s∧s.size<=maxLen
def isSl (R : D->Prop) (x : D) : Prop:=∃ es : List D,x=.slice es∧es.length<=maxLen∧∀ e ∈ es,R e
def isSt (Rs : List (D->Prop)) (x : D) : Prop:=∃ es : List D,x=.agg (flat es)∧es.length=Rs.length∧∀ i,i < Rs.length->(Rs.getD i fun _ => True) (es.getD i .nilptr)

theorem opC_int {P : Program} {t : TypeId} (ht : P.underlying t=some (.int .i64)) (hc : P.cellsOf t=1) : OpC P t false isI64:=by
 intro H enc w fuel cs y h
 obtain ⟨n,rfl,hx,hw⟩:=DataW.trod_int ht h
 obtain ⟨h1,h2⟩:=one_op (w:=w) rfl (Rd.int .i64 n)
 exact ⟨.int .i64 n,rfl,h1,by simp [hc],h2,n,rfl,bounds_i64 hw⟩
def isU8 (x : D) : Prop:=∃ n : Int,x=.int .u8 n∧0<=n∧n<=255
theorem opC_u8 {P : Program} {t : TypeId} (ht : P.underlying t=some (.int .u8)) (hc : P.cellsOf t=1) : OpC P t false isU8:=by
 intro H enc w fuel cs y h
 obtain ⟨n,rfl,hx,hw⟩:=DataW.trod_int ht h
 obtain ⟨h1,h2⟩:=one_op (w:=w) rfl (Rd.int .u8 n)
 refine ⟨.int .u8 n,rfl,h1,by simp [hc],h2,n,rfl,?_⟩
 simp [Lit.wf,IntKind.min,IntKind.max,IntKind.signed,IntKind.bits] at hw
 omega
theorem flat_block {k : Nat} : ∀ {es : List D} (_ : ∀ e ∈ es,e.cells.length=k) {i j : Nat},i < es.length->j < k->(flat es).getD (i * k + j) .nilptr=(es.getD i .nilptr).cells.getD j .nilptr
 | [],_,_,_,hi,_ => absurd hi (Nat.not_lt_zero _)
 | e :: es, h, 0, j, _, hj => by
   have:=h e (by simp)
   simp only [flat,List.flatMap_cons,Nat.zero_mul,Nat.zero_add,List.getD_cons_zero]
   rw [List.getD_eq_getElem?_getD,List.getD_eq_getElem?_getD,List.getElem?_append_left (by omega)]
 | e :: es, h, i + 1, j, hi, hj => by
   have h1:=h e (by simp)
   have ih:=flat_block (es:=es) (fun x hx => h x (by simp [hx])) (i:=i) (j:=j) (by simpa using hi) hj
   simp only [flat,List.flatMap_cons,List.getD_cons_succ] at ih ⊢
   rw [← ih,List.getD_eq_getElem?_getD,List.getD_eq_getElem?_getD,List.getElem?_append_right (by rw [h1,Nat.succ_mul]; omega),h1]
   congr 2
   rw [Nat.succ_mul]; omega
theorem flat_len {k : Nat} : ∀ {es : List D},(∀ e ∈ es,e.cells.length=k)->(flat es).length=es.length * k
 | [],_ => by simp [flat]
 | e :: es, h => by
   have h1:=h e (by simp)
   have ih:=flat_len (es:=es) (fun x hx => h x (by simp [hx]))
   simp only [flat,List.flatMap_cons,List.length_append,List.length_cons] at ih ⊢
   rw [ih,h1,Nat.succ_mul]; omega

theorem cells_at {w : World} {base : Nat} {a : Addr} {n : Nat} {cs : List Value} (h : w.cells? base a n=some cs) {i : Nat} (hi : i < n) : w.cell? (a.add i)=some (cs.getD i Go.undef):=by
 obtain ⟨_,hl,hx⟩:=World.cells?_some h
 rw [hx i hi,List.getD_eq_getElem?_getD,List.getElem?_eq_getElem (by omega)]; rfl

theorem choose_list {α : Type} (z : α) {Q : Nat->α->Prop} : ∀ (n : Nat),(∀ i,i < n->∃ x,Q i x)->∃ l : List α,l.length=n∧∀ i,i < n->Q i (l.getD i z)
 | 0,_ => ⟨[],rfl,fun _ h => absurd h (Nat.not_lt_zero _)⟩
 | n + 1, h => by
   obtain ⟨l,hl,hq⟩:=choose_list z n fun i hi => h i (by omega)
   obtain ⟨x,hx⟩:=h n (by omega)
   refine ⟨l++[x],by simp [hl],fun i hi => ?_⟩
   by_cases e : i=n
   . subst e
     rw [List.getD_eq_getElem?_getD,List.getElem?_append_right (by omega),hl]
     simpa using hx
   . have:=hq i (by omega)
     rw [List.getD_eq_getElem?_getD] at this ⊢
     rw [List.getElem?_append_left (by omega)]
     exact this

theorem opC_slice {P : Program} {t e : TypeId} {agg : Bool} {R : D->Prop} (ht : P.underlying t=some (.slice e)) (hc : P.cellsOf t=1) (hpos : 0 < P.cellsOf e) (he : OpC P e agg R) : OpC P t false (isSl R):=by
 intro H enc w fuel cs y h
 rcases open_slice ht h with ⟨rfl,_⟩ | ⟨a,len,cap,m,n,Dd,Pl,rfl,hb,hl,hm,hmm,rfl,hx⟩
 . obtain ⟨h1,h2⟩:=one_op (w:=w) rfl (Rd.nil none)
   exact ⟨.slice [],rfl,h1,by simp [hc],h2,[],rfl,Nat.zero_le _,fun _ h => by simp at h⟩
 . simp only [if_true] at hmm
   subst hmm
   have hel : ∀ i,i < len->∃ q : D × List Value,q.1.cells.length=P.cellsOf e∧w.cells? 0 (a.add (i * P.cellsOf e)) (P.cellsOf e)=some q.2∧(∀ j,j < P.cellsOf e->Rd (fun _ => True) w (q.1.cells.getD j .nilptr) (q.2.getD j Go.undef))∧R q.1:=by
    intro i hi
    obtain ⟨cs',h1,h2⟩:=hx i (by omega)
    obtain ⟨x,h3,h4,h5,h6,h7⟩:=he H enc w n cs' _ h2
    exact ⟨(x,cs'),by simp only; omega,h1,fun j hj => h6 j (by omega),h7⟩
   obtain ⟨qs,hql,hq⟩:=choose_list (.nilptr,[]) len hel
   by_cases h0 : m=0
   . subst h0
     have : len=0:=by omega
     subst this
     obtain ⟨h1,h2⟩:=one_op (w:=w) rfl (Rd.nil (some a))
     exact ⟨.slice [],rfl,h1,by simp [hc],h2,[],rfl,Nat.zero_le _,fun _ h => by simp at h⟩
   . obtain ⟨cs0,g1,_⟩:=hx 0 (by omega)
     have g2:=cells_at g1 (i:=0) hpos
     have hsp : a.spot=none:=by
      have:=World.cell?_spot g2
      simpa [Addr.add] using this
     obtain ⟨b,off,spot⟩:=a
     simp only at hsp
     subst hsp
     have hk : ∀ x ∈ qs.map (·.1),x.cells.length=P.cellsOf e:=by
      intro x hx
      obtain ⟨q,hqm,rfl⟩:=List.mem_map.1 hx
      obtain ⟨i,hi,rfl⟩:=List.mem_iff_getElem.1 hqm
      have:=(hq i (by omega)).1
      rwa [List.getD_eq_getElem?_getD,List.getElem?_eq_getElem hi] at this
     have fl:=flat_len hk
     rw [List.length_map,hql] at fl
     have hget : ∀ i,i < len->(qs.map (·.1)).getD i .nilptr=(qs.getD i (.nilptr,[])).1:=by
      intro i hi
      rw [List.getD_eq_getElem?_getD,List.getD_eq_getElem?_getD,List.getElem?_map,List.getElem?_eq_getElem (by omega)]; rfl
     have hdm : ∀ i,i < len * P.cellsOf e->i / P.cellsOf e < len∧i % P.cellsOf e < P.cellsOf e∧i / P.cellsOf e * P.cellsOf e + i % P.cellsOf e=i:=fun i hi =>
      ⟨(Nat.div_lt_iff_lt_mul hpos).2 hi,Nat.mod_lt _ hpos,by rw [Nat.mul_comm]; exact Nat.div_add_mod _ _⟩
     have hr : Rd (fun _ => True) w (.slice (qs.map (·.1))) (.slice (some ⟨b,off,none⟩) (qs.map (·.1)).length m) :=
      Rd.slice (k:=P.cellsOf e) (fun i => ((qs.getD (i / P.cellsOf e) (.nilptr,[])).2).getD (i % P.cellsOf e) Go.undef) hk (by rw [List.length_map]; omega)
       (fun i hi => by
        obtain ⟨d1,d2,d3⟩:=hdm i (by omega)
        obtain ⟨_,q2,_,_⟩:=hq _ d1
        have:=cells_at q2 d2
        refine ⟨trivial,?_⟩
        rw [← this]
        congr 1
        simp only [Addr.add]
        split<;>split<;>simp<;>omega)
       (fun i hi => by
        obtain ⟨d1,d2,d3⟩:=hdm i (by omega)
        obtain ⟨_,_,q3,_⟩:=hq _ d1
        have:=q3 _ d2
        rw [← hget _ d1,← flat_block hk (by rw [List.length_map]; omega) d2,d3] at this
        exact this)
     rw [List.length_map,hql] at hr
     obtain ⟨h1,h2⟩:=one_op (w:=w) rfl hr
     refine ⟨_,rfl,h1,by simp [hc],h2,_,rfl,by rw [List.length_map]; omega,fun x hx => ?_⟩
     obtain ⟨q,hqm,rfl⟩:=List.mem_map.1 hx
     obtain ⟨i,hi,rfl⟩:=List.mem_iff_getElem.1 hqm
     have:=(hq i (by omega)).2.2.2
     rwa [List.getD_eq_getElem?_getD,List.getElem?_eq_getElem hi] at this

inductive OpF (P : Program) : Nat->List Field->List (D->Prop)->Nat->Prop
 | nil (off) : OpF P off [] [] off
 | cons {off tot : Nat} {f : Field} {fs : List Field} {agg : Bool} {R : D->Prop} {Rs : List (D->Prop)} (ho : f.offset=off) (h : OpC P f.type agg R) (hs : OpF P (off + P.cellsOf f.type) fs Rs tot) : OpF P off (f :: fs) (R :: Rs) tot

def arF (P : Program) (e : TypeId) : Nat->Nat->List Field
 | 0,_ => []
 | n + 1,off => { (default : Field) with type:=e,offset:=off } :: arF P e n (off + P.cellsOf e)
theorem opV_one {P : Program} {t : TypeId} {R : D->Prop} (hc : OpC P t false R) (hv : ∀ w v,Value.okWide P w .any 0 t v->v.cells=#[v]) : OpV P t R:=by
 intro H enc w v d p hok ⟨fuel,h⟩
 rw [hv w v hok] at h
 obtain ⟨x,x1,x2,x3,x4,x5⟩:=hc H enc w fuel _ _ h
 have e : x.cells=[x]:=by cases x<;>simp_all [D.cells,D.isAgg]
 have:=x4 0 (by simp)
 rw [e] at this
 exact ⟨x,by simpa using this,x5⟩
theorem opV_slice {P : Program} {t e : TypeId} {R : D->Prop} (ht : P.underlying t=some (.slice e)) (hc : OpC P t false R) : OpV P t R :=
 opV_one hc fun w v h => by obtain ⟨a,l,c,rfl⟩:=okWide_slice ht h; rfl
theorem opV_int {P : Program} {t : TypeId} (ht : P.underlying t=some (.int .i64)) (hc : P.cellsOf t=1) : OpV P t isI64 :=
 opV_one (opC_int ht hc) fun w v h => by obtain ⟨n,rfl⟩:=okWide_int ht h; rfl
inductive OpA (P : Program) : List TypeId->List (D->Prop)->Prop
 | nil : OpA P [] []
 | cons {t : TypeId} {ts : List TypeId} {R : D->Prop} {Rs : List (D->Prop)} (h : OpV P t R) (hs : OpA P ts Rs) : OpA P (t :: ts) (R :: Rs)

def AllR : List (D->Prop)->List D->Prop
 | [],[] => True
 | R :: Rs,x :: xs => R x∧AllR Rs xs
 | _,_ => False

theorem opA_spec' {P : Program} {ts : List TypeId} {Rs : List (D->Prop)} (h : OpA P ts Rs) {H : Type} {enc : TypeId × Value->H} {w : World} : ∀ {vs : List Value} {ds : List (DataW H)} {p : List MemPlace},
 (∀ (j : Nat) t v,ts[j]? = some t->vs[j]? = some v->Value.okWide P w .any 0 t v)->DataW.TrodAll enc P w 0 (fun _ => true) true ts vs ds p ->
 ∃ xs : List D,vs.length=xs.length∧(∀ i,i < xs.length->Rd (fun _ => True) w (xs.getD i .nilptr) (vs.getD i Go.undef))∧AllR Rs xs:=by
 induction h with
 | nil =>
   intro vs ds p _ hd
   obtain ⟨rfl,rfl,rfl⟩:=trodAll_nil hd
   exact ⟨[],rfl,fun i hi => absurd hi (Nat.not_lt_zero _),trivial⟩
 | cons h hs ih =>
   intro vs ds p hv hd
   obtain ⟨v0,vs0,d0,ds0,p0,q0,rfl,rfl,rfl,h0,r0⟩:=trodAll_cons hd
   obtain ⟨x,hx,hR⟩:=h _ _ _ _ _ _ (hv 0 _ v0 rfl rfl) h0
   obtain ⟨xs,e1,e2,e3⟩:=ih (fun j t v a b => hv (j + 1) t v (by simpa using a) (by simpa using b)) r0
   refine ⟨x :: xs,by simp [e1],fun i hi => ?_,hR,e3⟩
   cases i with
   | zero => exact hx
   | succ i => exact e2 i (by simpa using hi)

theorem Fr.below {w w' : World} (h : Fr w.heap.size (fun _ => False) w w') : Below w.heap.size w w':=⟨h.os,h.tape,h.output,h.size,fun k hk => h.block k hk (fun h => h)⟩

theorem returns_true {P : Program} {f : FuncId} {ts : List TypeId} {Rs : List (D->Prop)} (hA : OpA P ts Rs) (hC : ∀ xs,AllR Rs xs->Ctr P f xs false (.d (.bool true)) []) {H : Type} {enc : TypeId × Value->H} {w : World} {args : Array Value} {ds : List (DataW H)} {p : List MemPlace}
 (hv : ∀ (j : Nat) t v,ts[j]? = some t->args.toList[j]? = some v->Value.okWide P w .any 0 t v) (hd : DataW.TrodAll enc P w 0 (fun _ => true) true ts args.toList ds p)
 (hG : GS (fun _ => True) w.heap.size (fun _ => False) w:=by exact GS.nil ⟨rfl,rfl⟩) : Calls P f args w fun e w' => e=.returned (.bool true)∧Below w.heap.size w w':=by
 obtain ⟨xs,h1,h2,h3⟩:=opA_spec' hA hv hd
 have:=(hC xs h3).2 (fun _ => True) w args.toList h1 h2 hG
 rw [show args.toList.toArray=args by simp] at this
 refine this.mono fun e w' ⟨v,he,hf,hr⟩ => ⟨?_,hf.below⟩
 obtain ⟨β,φ,hr,_⟩:=hr
 cases hr with
 | d hr => cases hr; exact he
theorem allR_cons {R : D->Prop} {Rs : List (D->Prop)} {xs : List D} (h : AllR (R :: Rs) xs) : ∃ x ys,xs=x :: ys∧R x∧AllR Rs ys:=by
 cases xs with
 | nil => exact h.elim
 | cons x ys => exact ⟨x,ys,rfl,h.1,h.2⟩
theorem allR_nil {xs : List D} (h : AllR [] xs) : xs=[]:=by
 cases xs with
 | nil => rfl
 | cons x ys => exact h.elim
end Abs
