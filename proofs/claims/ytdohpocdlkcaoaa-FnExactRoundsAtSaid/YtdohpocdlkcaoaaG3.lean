/- What functions of this program compute, over plain data. No condition. -/
import Derived.Test.YtdohpocdlkcaoaaAbsRow
import Derived.Test.YtdohpocdlkcaoaaL1
import Derived.Test.YtdohpocdlkcaoaaAbsLaws
set_option linter.all false
namespace Abs
open Go Go.RowKit

theorem OK.deep {β S w e k es v F} (hb : ∀ x ∈ flat es,x.bare=true) (h : OK β S w (.arr e k es) v F) : OK β S w (.dp (some (e,k)) es none) v F:=by
 have hlt : ∀ g,F g->g < w.heap.size:=fun g hg => h.block_lt hg
 cases h with
 | arr hF xs hk0 hk hw hr =>
   subst hF
   exact .dp hlt (.inr ⟨e,k,xs,fun _ _ => False,.inr rfl,hk0,hk,hw,fun b hb => ⟨hb,fun _ h => h⟩,fun _ _ h => h.elim,fun _ _ _ h => h.elim,fun i hi _ => dp_bare (hb _ (by
    simp only [List.getD_eq_getElem?_getD,List.getElem?_eq_getElem hi,Option.getD_some]; exact List.getElem_mem hi)) (hr i hi),fun _ _ h => by cases h⟩)
theorem Wk.obj {N} {st : St} (j : Nat) {o o1 : AO} (hj : lk j st.o=some o) (h : ∀ β S w v F,OK β S w o v F->OK β S w o1 v F) (h0 : o.isRes=false:=by rfl) : Wk N st ⟨st.s,ins j o1 st.o⟩:=fun Z β φ B M w0 a w hs => by
 have hk : ∀ i x,lk i (ins j o1 st.o)=some x->(i=j∧x=o1)∨(i ≠ j∧lk i st.o=some x):=fun i x hi => by
  rw [lk_ins] at hi
  split at hi
  . rename_i e; cases hi; exact .inl ⟨e,rfl⟩
  . rename_i e; exact .inr ⟨e,hi⟩
 have he : ∀ i x,lk i (ins j o1 st.o)=some x->∃ y,lk i st.o=some y∧(x.isRes=false->y.isRes=false):=fun i x hi => by
  rcases hk i x hi with ⟨rfl,_⟩ | ⟨_,h2⟩
  . exact ⟨o,hj,fun _ => h0⟩
  . exact ⟨x,h2,id⟩
 have hS : ∀ g,free Z φ st.o g->g < w.heap.size->free Z φ (ins j o1 st.o) g∧w.heap[g]? = w.heap[g]? := fun g hg _ => ⟨⟨hg.1,fun i x hi hx => by
  obtain ⟨y,hy,hyr⟩:=he i x hi; exact hg.2 i y hy (hyr hx)⟩,rfl⟩
 refine ⟨β,φ,hs.nd.move hS,hs.size,fun i av hi => (hs.slots i av hi).move hS,fun i x hi => ?_,fun i x g hi hg => ?_,fun i i' x x' g hi hi' hg hg' => ?_,hs.fr,hs.z⟩
 . rcases hk i x hi with ⟨rfl,rfl⟩ | ⟨_,h2⟩
   . exact h _ _ _ _ _ ((hs.objs i o hj).move hS (Nat.le_refl _) fun _ _ => rfl)
   . exact (hs.objs i x h2).move hS (Nat.le_refl _) fun _ _ => rfl
 . obtain ⟨y,hy,_⟩:=he i x hi; exact hs.own i y g hy hg
 . obtain ⟨y,hy,_⟩:=he i x hi
   obtain ⟨y',hy',_⟩:=he i' x' hi'
   exact hs.disj i i' y y' g hy hy' hg hg'
theorem Wk.deep {N} {S : List (Nat × AV)} {O : List (Nat × AO)} (j : Nat) {e k es} (hj : lk j O=some (.arr e k es)) (hb : ∀ x ∈ flat es,x.bare=true) : Wk N ⟨S,O⟩ ⟨S,ins j (.dp (some (e,k)) es none) O⟩ :=
 Wk.obj (st:=⟨S,O⟩) j hj fun _ _ _ _ _ h => h.deep hb
theorem Wk.fold {N} {S S' : List (Nat × AV)} {O O' : List (Nat × AO)} (j : Nat) {t es} (h : deepAt ⟨S,O⟩ j=some (t,es,⟨S',O'⟩)) : Wk N ⟨S,O⟩ ⟨S',O'⟩:=fun _ β _ _ _ _ _ _ hs =>
 let ⟨φ',h1,_⟩:=deepAt_spec hs h
 ⟨β,φ',h1⟩
theorem Wk.lend1 {N} {S : List (Nat × AV)} {O : List (Nat × AO)} (j i fo d : Nat) {τ : Option (TypeId × Nat)} {es ys : List D} (hj : lk j O=some (.dp τ es none)) (hjd : j ≠ d) (hi : i < es.length) (hys : (el es i).cells.getD fo .nilptr=.sl1 ys) (hfo : fo < (el es i).cells.length) :
 Wk N ⟨S,O⟩ ⟨wipeS d S,ins d (.d1 ys) (ins j (.dp τ es (some ((i,fo),some d))) (wipeO d O))⟩:=fun Z β φ B M w0 a w hs => by
 have hO:=hs.objs j _ hj
 have hlt : ∀ g,φ j g->g < w.heap.size:=fun g hg => hO.block_lt hg
 obtain ⟨e,k2,xs,fs,ht,hR⟩ : ∃ e k2 xs fs,(τ=none∨τ=some (e,k2))∧DpR β w e k2 es none (β j) (φ j) xs fs:=by
  cases hO with
  | dp _ hD => exact hD.at (by rintro rfl; simp at hi)
 have hkk : (el es i).cells.length=k2:=hR.hk _ (el_mem hi)
 have hle : i * k2 + k2<=es.length * k2:=by
  have : (i + 1) * k2<=es.length * k2:=Nat.mul_le_mul_right k2 (by omega)
  rwa [Nat.add_mul,Nat.one_mul] at this
 have fl:=flat_length hR.hk
 have hdp:=hR.hr (i * k2 + fo) (by omega) (by simp)
 rw [flat_getD hR.hk hi (by omega),hys] at hdp
 exact ⟨_,_,lend1_sim hs hj hjd ht hR hi (by omega) hlt hdp⟩
theorem Wk.data {N st j o es} (hj : lk j st.o=some o) (ho : rowOf o=some es) : Wk N st (st.frz j es):=fun _ β φ _ _ _ _ _ hs => ⟨β,φ,hs.frz' hj ho⟩

theorem Ctr.data1 {P : Program} {f : FuncId} {xs : List D} {sh : Bool} {e : TypeId} {k : Nat} {es : List D} (h : Ctr P f xs sh (.sl 0) [(0,.arr e k es)]) : Ctr P f xs true (.d (.slice es)) []:=by
 refine ⟨h.1,fun S w vs hl hr => (h.2 S w vs hl hr).mono fun en w' ⟨v,he,hf,β,φ,hrel,hobj,hown,hdis⟩ => ⟨v,he,hf,β,φ,.d ?_,by simp [lk],by simp [lk],by simp [lk]⟩⟩
 cases hrel
 exact rd_of_arr (hobj 0 (.arr e k es) (by simp [lk])) (fun g hg _ => ⟨hg.1.imp id fun h => ⟨rfl,h.2⟩,by simp [lk]⟩) fun g hg => ⟨.inl (hown 0 (.arr e k es) g (by simp [lk]) hg),by simp [lk]⟩
theorem ret_c1 {P : Program} {a : Nat} {t : TypeId} {c : Prop} {x : D} {st : St} (h : (lk a st.s).bind (loadV P st.o t)=some (c,.d x)) (hc : c) (hu : (P.underlying t).isSome=true) : retQ P [.cell a t] true (.d x) [] .ret st:=by
 refine .inl ?_
 simp only [retO,resV,h]
 exact ⟨⟨hu,hc,trivial⟩,.nil rfl,.inl trivial⟩
theorem ret_cb {P : Program} {a j : Nat} {t e : TypeId} {cells : List AV} {ds : List D} {st : St} (h : lk a st.s=some (.p j 0)) (hj : lk j st.o=some (.box e cells)) (hag : aggT P t=true) (hn : P.cellsOf t=cells.length) (hd : allD cells=some ds) (hu : (P.underlying t).isSome=true) :
 retQ P [.cell a t] true (.d (.agg ds)) [] .ret st:=by
 refine ret_c1 (c:=0 + P.cellsOf t<=cells.length∧(P.underlying t).isSome=true) ?_ ⟨by omega,hu⟩ hu
 rw [h,Option.bind_some,loadV,hj]
 simp only [hag,if_true,List.drop_zero,hn,List.take_length,hd]

theorem lk_one {α : Type} {j : Nat} {a b : α} (h : lk j [(0,a)]=some b) : j=0∧b=a:=by
 simp only [lk] at h
 split at h
 . rename_i e; cases h; exact ⟨e,rfl⟩
 . cases h
theorem free_one {T : Nat->Prop} {φ : Nat->Nat->Prop} {a b : AO} {g : Nat} (h0 : a.isRes=false) (h : free T φ [(0,a)] g) : free T φ [(0,b)] g:=⟨h.1,fun j x hj _ => by
 obtain ⟨rfl,rfl⟩:=lk_one hj; exact h.2 0 a (by simp [lk]) h0⟩
theorem Ctr.obj {P : Program} {f : FuncId} {xs : List D} {sh : Bool} {res : AV} {o o1 : AO} (h : ∀ β S w v F,OK β S w o v F->OK β S w o1 v F) (hc : Ctr P f xs sh res [(0,o)]) (h0 : o.isRes=false:=by rfl) : Ctr P f xs sh res [(0,o1)]:=by
 refine ⟨hc.1,fun S w vs hl hr => (hc.2 S w vs hl hr).mono fun en w' ⟨v,he,hf,β,φ,h1,h2,h3,h4⟩ => ⟨v,he,hf,β,φ,h1.move fun g hg _ => ⟨free_one h0 hg,rfl⟩,fun j x hj => ?_,fun j x g hj hg => ?_,fun j j' x x' g hj hj' _ _ => ?_⟩⟩
 . obtain ⟨rfl,rfl⟩:=lk_one hj
   exact h _ _ _ _ _ ((h2 0 o (by simp [lk])).move (fun g hg _ => ⟨free_one h0 hg,rfl⟩) (Nat.le_refl _) fun _ _ => rfl)
 . obtain ⟨rfl,rfl⟩:=lk_one hj
   exact h3 0 o g (by simp [lk]) hg
 . rw [(lk_one hj).1,(lk_one hj').1]
theorem Ctr.deep {P : Program} {f : FuncId} {xs : List D} {sh : Bool} {res : AV} {e k es} (hc : Ctr P f xs sh res [(0,.arr e k es)]) (hb : ∀ x ∈ flat es,x.bare=true) : Ctr P f xs sh res [(0,.dp (some (e,k)) es none)] :=
 hc.obj fun _ _ _ _ _ h => h.deep hb

theorem bare_ints {k : IntKind} (xs : List Int) : (∀ x ∈ flat (List.map (D.int k) xs),x.bare=true)=True:=by
 refine eq_true fun x hx => ?_
 obtain ⟨y,hy,hc⟩:=List.mem_flatMap.1 hx
 obtain ⟨z,_,rfl⟩:=List.mem_map.1 hy
 have : x=.int k z:=by simpa [D.cells] using hc
 subst this; rfl
attribute [go_sem] bare_ints
theorem retM_d {P t st x u ob} (h : lk t st.s=some (.d x)) (ho : lk 0 st.o=some ob) (hk : lk 1000000000 st.s=some (.hdr 0 (u 0))) (hx : x.plain=true) (hp : ob.plain) (hr : ob.ren (fun j => j)=ob) :
 retM P [.tmp t] u [0] false (.d x) [(0,ob)] .ret st:=by
 simp only [retM,resV,h]
 refine ⟨trivial,⟨fun j => j,rfl,by simpa [hr] using ho,by simp,⟨rfl,hk,trivial⟩⟩,.inr ⟨hx,hp,trivial⟩⟩
theorem ret_dp {P t st τ es} (j : Nat) (h : lk t st.s=some (.sl j)) (ho : lk j st.o=some (.dp τ es none)) : retQ P [.tmp t] false (.sl 0) [(0,.dp τ es none)] .ret st:=by
 refine .inl ?_
 simp only [retO,resV,h]; exact ⟨trivial,.one j rfl ho,.inr ⟨trivial,trivial,trivial⟩⟩
theorem ret_dpd {P t u y st τ es} (j : Nat) (h : lk t st.s=some (.sl j)) (h' : lk u st.s=some (.d y)) (ho : lk j st.o=some (.dp τ es none)) (hy : y.plain=true) :
 retQ P [.tmp t,.tmp u] false (.tup [.sl 0,.d y]) [(0,.dp τ es none)] .ret st:=by
 refine .inl ?_
 simp only [retO,resV,h,h']
 exact ⟨trivial,.one j rfl ho,.inr ⟨⟨trivial,hy,trivial⟩,trivial,trivial⟩⟩
theorem ret_cst {P : Program} {a j i : Nat} {t e : TypeId} {cells cs' : List AV} {ob : AO} {st : St} (h : lk a st.s=some (.p j 0)) (hj : lk j st.o=some (.box e cells)) (hag : aggT P t=true) (hn : P.cellsOf t=cells.length) (hd : allD cells=none)
 (hu : (P.underlying t).isSome=true) (hi : lk i st.o=some ob) (hc : cells=AV.renL (fun _ => i) cs') (hp : AV.plainL cs') (hop : ob.plain) (hr : ob.ren (fun _ => i)=ob) :
 retQ P [.cell a t] false (.st cs') [(0,ob)] .ret st:=by
 refine .inl ?_
 have hl : (lk a st.s).bind (loadV P st.o t)=some (0 + P.cellsOf t<=cells.length∧(P.underlying t).isSome=true,.st cells):=by
  rw [h,Option.bind_some,loadV,hj]
  simp only [hag,if_true,List.drop_zero,hn,List.take_length,hd]
 simp only [retO,resV,hl]
 exact ⟨⟨hu,⟨by omega,hu⟩,trivial⟩,.one i (by simp only [oneOf,AV.ren,hc]) (by rw [hr]; exact hi),.inr ⟨hp,hop,trivial⟩⟩

theorem callX_keep {P N f cavs st dst K} (J : Nat) {avs o res o'} (hs : CtrM P f avs [(0,o)] [0] false res [(0,o')]) (hp : passM P (delL [J] st.o) (nth [J]) false cavs avs) (ho : lkn J st.o=some (o.ren (nth [J])))
 (hd : dstB N dst) (hK : K (impM st dst (nth [J]) [] res [(0,o')])) : callX P N f cavs dst K st :=
 callX_mut [J] [J] [] hs hp ⟨ho,trivial⟩ (by simp [namesOK,keysO,nth]) hd hK

def cntI (k : Int) : Nat->List Int
 | 0 => []
 | n + 1 => k :: cntI (k + 1) n
theorem cntI_len : ∀ (n : Nat) (k : Int),(cntI k n).length=n
 | 0,_ => rfl
 | n + 1,k => by simp [cntI,cntI_len n]
theorem cntI_getD : ∀ (n : Nat) (k : Int) (j : Nat),j < n->(cntI k n).getD j 0=k + j
 | n + 1,k,0,_ => by simp [cntI]
 | n + 1, k, j + 1, h => by
   rw [cntI,List.getD_cons_succ,cntI_getD n (k + 1) j (by omega)]; omega
end Abs
namespace Abs
theorem bare_nils {n : Nat} : ∀ x ∈ flat (List.map D.ints (List.replicate n ([] : List Int))),x.bare=true:=fun x hx => by
 obtain ⟨y,hy,hc⟩:=List.mem_flatMap.1 hx
 obtain ⟨z,hz,rfl⟩:=List.mem_map.1 hy
 rw [List.eq_of_mem_replicate hz] at hc
 have : x=D.ints []:=by simpa [D.cells,D.ints] using hc
 subst this; rfl
end Abs
namespace Abs
def cntSS : List (List Int)->Int->List (List Int)
 | [],_ => []
 | x :: r,k => cntI k x.length :: cntSS r (k + x.length)
def lenSS : List (List Int)->Nat
 | [] => 0
 | x :: r => x.length + lenSS r
theorem cntSS_len : ∀ (a : List (List Int)) (k : Int),(cntSS a k).length=a.length
 | [],_ => rfl
 | x :: r,k => by simp [cntSS,cntSS_len r]
def offSS (a : List (List Int)) (k : Int) (i : Nat) : Int:=k + (lenSS (a.take i) : Nat)
theorem cntSS_getD : ∀ (a : List (List Int)) (k : Int) (i : Nat),i < a.length->(cntSS a k).getD i []=cntI (offSS a k i) (a.getD i []).length
 | x :: r,k,0,_ => by simp [cntSS,offSS,lenSS]
 | x :: r, k, i + 1, h => by
   have:=cntSS_getD r (k + x.length) i (by simpa using h)
   rw [cntSS,List.getD_cons_succ,this,List.getD_cons_succ]
   unfold offSS
   rw [List.take_succ_cons,lenSS]
   congr 1; omega
theorem offSS_succ (a : List (List Int)) (k : Int) (i : Nat) (h : i < a.length) : offSS a k (i + 1)=offSS a k i + (a.getD i []).length:=by
 have : ∀ (a : List (List Int)) (i : Nat),i < a.length->lenSS (a.take (i + 1))=lenSS (a.take i) + (a.getD i []).length:=by
  intro a
  induction a with
  | nil => intro i h; simp at h
  | cons x r ih =>
    intro i h
    cases i with
    | zero => simp [lenSS]
    | succ i =>
      have:=ih i (by simpa using h)
      rw [List.take_succ_cons,lenSS,this,List.take_succ_cons,lenSS,List.getD_cons_succ]; omega
 unfold offSS
 rw [this a i h]; omega
theorem offSS_zero (a : List (List Int)) (k : Int) : offSS a k 0=k:=by simp [offSS,lenSS]
theorem offSS_len (a : List (List Int)) (k : Int) : offSS a k a.length=k + lenSS a:=by simp [offSS]
theorem lenSS_take_le : ∀ (a : List (List Int)) (i : Nat),lenSS (a.take i)<=lenSS a
 | [],i => by simp [lenSS]
 | x :: r,0 => by simp [lenSS]
 | x :: r,i + 1 => by have:=lenSS_take_le r i; simp [lenSS]; exact this
theorem offSS_le (a : List (List Int)) (k : Int) (i : Nat) : offSS a k i<=k + lenSS a:=by
 have:=lenSS_take_le a i; unfold offSS; omega
theorem lenSS_bound {a : List (List Int)} {B : Nat} (h : ∀ x ∈ a,x.length<=B) : lenSS a<=a.length * B:=by
 induction a with
 | nil => simp [lenSS]
 | cons x r ih =>
   have h1:=h x (by simp)
   have h2:=ih fun y hy => h y (by simp [hy])
   simp only [lenSS,List.length_cons,Nat.add_mul,Nat.one_mul]; omega

def lenST : List Step->Nat
 | [] => 0
 | s :: r => s.c.length + 3 + lenST r
def cntST1 (s : Step) (k : Int) : Step:=⟨cntI k s.c.length,k + s.c.length,k + s.c.length + 1,k + s.c.length + 2⟩
def cntST : List Step->Int->List Step
 | [],_ => []
 | s :: r,k => cntST1 s k :: cntST r (k + s.c.length + 3)
def offST (a : List Step) (k : Int) (i : Nat) : Int:=k + (lenST (a.take i) : Nat)
theorem offSS_nonneg (a : List (List Int)) {k : Int} (i : Nat) (h : 0<=k) : 0<=offSS a k i:=by unfold offSS; omega
end Abs
namespace Abs
end Abs
namespace Abs
end Abs
namespace Abs
end Abs
namespace Abs
open Go Go.RowKit
theorem Wk.nilObj {N} {S : List (Nat × AV)} {O : List (Nat × AO)} (d j off : Nat) {e t : TypeId} {k : Nat} {cells : List AV} (hj : lk j (wipeO d O)=some (.box t cells)) (hn : cells.getD off .undef=.nilS) (ho : off < cells.length) (hdj : j ≠ d) (hk : 0 < k) :
 Wk N ⟨S,O⟩ ⟨wipeS d S,ins d (.arr e k []) (ins j (.box t (setL cells off [.sl d])) (wipeO d O))⟩:=fun Z β φ B M w0 a w hs => by
 have h1:=hs.kill (β':=upd β d (.slice none 0 0)) (φ':=updF φ d (ownS (.slice none 0 0))) d upd_ne updF_ne
 have g0 : Gb w w none:=Gb.refl w none
 have h2:=h1.mod (o:=.box t (setL cells off [.sl d])) (j:=j) hj (w':=w) g0 (by simp) fun S' m1 m2 => by
  have hO:=h1.objs j _ hj
  rw [upd_ne j hdj,updF_ne j hdj] at hO ⊢
  generalize β j=vj at *
  generalize φ j=Fj at *
  cases hO with
  | box hF xs hne hw hr =>
    have hxl : xs.length=cells.length:=by simpa using hw.1
    have hsl : (setL cells off [.sl d]).length=cells.length:=setL_length (by simp; omega)
    refine .box hF xs hne (by rw [hsl]; exact hw) fun i hi => ?_
    rw [hsl] at hi
    rw [setL_getD (by simp; omega)]
    split
    . rename_i hh
      simp only [List.length_singleton] at hh
      have : i=off:=by omega
      subst this
      have h3:=hr i hi
      rw [hn] at h3
      simp only [Nat.sub_self,List.getD_cons_zero]
      generalize xs.getD i Go.undef=u at *
      cases h3
      have h4:=Rel.sl (β:=upd β d (.slice none 0 0)) (S:=S') (w:=w) d
      rwa [upd_eq] at h4
    . exact m1 _ _ (hr i hi)
 have hnone : lk d (ins j (.box t (setL cells off [.sl d])) (wipeO d O))=none:=by
  rw [lk_ins,if_neg (Ne.symm hdj)]
  exact lk_kill (st:=⟨S,O⟩)
 refine ⟨_,_,h2.layNew (j:=d) (o:=.arr e k []) hnone g0 (fun g hg => by rw [updF_eq] at hg; cases hg) fun S' _ _ => ?_⟩
 rw [upd_eq,updF_eq]
 exact .arr rfl [] hk (by simp) (World.ownsRow_nil _ _ _ _) (by simp [flat])
end Abs

namespace Abs.Y
open Go Go.Proofs Abs
open Nat renaming reduceEqDiff -> Qa, reduceLT -> Qb, reduceAdd -> Qc, reduceMul -> Qd, reduceSub -> Qe, reduceLeDiff -> Qf, reduceSubDiff -> Qg, reduceBEq -> Qh
open Bool renaming not_eq_true' -> Ba, not_eq_false' -> Bb, and_eq_true -> Bc, or_eq_true -> Bd, or_eq_false_iff -> Be
open Int renaming ofNat_lt -> Ia, ofNat_le -> Ib, not_lt -> Ic, not_le -> Ie
open Decidable renaming not_not -> Da
set_option maxRecDepth 100000


theorem szCnf_ok (v : Int) (a : List (List Int)) (left : Int) (hl : a.length<=9223372036854775807) (hx : ∀ x ∈ a,x.length<=9223372036854775807) (h1 : 0<=left∧left<=1048576) : Ctr Try.prog 8 [.agg [.int .i64 v,.slice (a.map D.ints)],.int .i64 left] false (.d (.int .i64 (szS szI a left))) []:=by
 have hf:=szS_szF szI_szF a left h1.1
 refine Ctr.of (n:=12) (rs:=[.tmp 4]) Try.func8 rfl rfl Try.ntmps8 rfl rfl (by kernel_rfl) Try.checked.mixed ?_
 simp (disch:=first | omega | decide +kernel) only [go_sem,Qa,Qb,Qc,Qd,Qe,↓reduceIte,reduceCtorEq,Qf,Qg,Qh]
 (repeat' (first | ((first | (refine gsel_split (fun q' => ?_) (fun q' => ?_)<;>(have h':=q')<;>(try simp only [za1,za2,Ba,Bb,za3,ne_eq,za4,za5,za6,Ia,Ib,Ic,Ie,Da,Bc,Bd,Be,za7,za8] at h')) | (have q':=trivial; first | refine callX_new (szIntSS_ok a left hl hx h1) rfl (by decide) ?_ | refine callY_new (szIntSS_ok a left hl hx h1) rfl ?_ | refine hE _ _ ret_ne ?_ | refine hE _ _ exit_ne ?_))<;>(try simp (disch:=first | omega | decide +kernel) only [q',go_sem,Qa,Qb,Qc,Qd,Qe,↓reduceIte,reduceCtorEq,Qf,Qg,Qh])<;>clear q') | refine hN _ ?_ ?_ Wk.kk | with_reducible refine And.intro ?_ ?_ | with_reducible omega | exact ok_ints | exact cells_ints | exact no_mem | with_reducible exact plain_ints | (refine le_maxLen ?_; omega) | (refine za9 ⟨?_,?_⟩) | (simp only [go_sem,Qc,Qb,zb1,zb2,forall_eq]; done)))
 . have : szS szI a left=-1:=by omega
   rw [this]
theorem toCnf_ok (v : Int) (a : List (List Int)) (hl : a.length<=4294967296) (hx : ∀ x ∈ a,x.length<=4294967296) : Ctr Try.prog 10 [.agg [.int .i64 v,.slice (a.map D.ints)]] true (.d (.agg [.int .i64 v,.slice (a.map D.ints)])) []:=by
 have hc:=Ctr.data1 (toIntSS_ok a hl hx)
 refine Ctr.of (n:=12) (rs:=[.cell 2 29]) Try.func10 rfl rfl Try.ntmps10 rfl rfl (by kernel_rfl) Try.checked.mixed ?_
 simp (disch:=first | omega | decide +kernel) only [go_sem,Qa,Qb,Qc,Qd,Qe,↓reduceIte,reduceCtorEq,Qf,Qg,Qh]
 (repeat' (first | ((first | (refine gsel_split (fun q' => ?_) (fun q' => ?_)<;>(have h':=q')<;>(try simp only [za1,za2,Ba,Bb,za3,ne_eq,za4,za5,za6,Ia,Ib,Ic,Ie,Da,Bc,Bd,Be,za7,za8] at h')) | (have q':=trivial; first | refine callX_shared (hc) rfl (by decide) ?_ | refine callY_shared (hc) rfl ?_ | refine hE _ _ ret_ne ?_ | refine hE _ _ exit_ne ?_))<;>(try simp (disch:=first | omega | decide +kernel) only [q',go_sem,Qa,Qb,Qc,Qd,Qe,↓reduceIte,reduceCtorEq,Qf,Qg,Qh])<;>clear q') | refine hN _ ?_ ?_ Wk.kk | with_reducible refine And.intro ?_ ?_ | with_reducible omega | exact ok_ints | exact cells_ints | exact no_mem | with_reducible exact plain_ints | (refine le_maxLen ?_; omega) | (refine za9 ⟨?_,?_⟩) | (simp only [go_sem,Qc,Qb,zb1,zb2,forall_eq]; done)))
 exact ret_cb rfl rfl (by simp only [go_sem]) (by simp only [go_sem,List.length_cons,List.length_nil]) rfl (by simp only [go_sem])
theorem eqCnf_ok (u v : Int) (a b : List (List Int)) (hl : a.length<=4294967296) (hx : ∀ x ∈ a,x.length<=4294967296) :
 Ctr Try.prog 13 [.agg [.int .i64 u,.slice (a.map D.ints)],.agg [.int .i64 v,.slice (b.map D.ints)]] false (.d (.bool (decide (u=v∧a=b)))) []:=by
 have hc:=eqIntSS_ok a b hl hx
 refine Ctr.of (n:=16) (rs:=[.tmp 4]) Try.func13 rfl rfl Try.ntmps13 rfl rfl (by kernel_rfl) Try.checked.mixed ?_
 simp (disch:=first | omega | decide +kernel) only [go_sem,Qa,Qb,Qc,Qd,Qe,↓reduceIte,reduceCtorEq,Qf,Qg,Qh]
 (repeat' (first | ((first | (refine gsel_split (fun q' => ?_) (fun q' => ?_)<;>(have h':=q')<;>(try simp only [za1,za2,Ba,Bb,za3,ne_eq,za4,za5,za6,Ia,Ib,Ic,Ie,Da,Bc,Bd,Be,za7,za8] at h')) | (have q':=trivial; first | refine callX_new (hc) rfl (by decide) ?_ | refine callY_new (hc) rfl ?_ | refine hE _ _ ret_ne ?_ | refine hE _ _ exit_ne ?_))<;>(try simp (disch:=first | omega | decide +kernel) only [q',go_sem,Qa,Qb,Qc,Qd,Qe,↓reduceIte,reduceCtorEq,Qf,Qg,Qh])<;>clear q') | refine hN _ ?_ ?_ Wk.kk | with_reducible refine And.intro ?_ ?_ | with_reducible omega | exact ok_ints | exact cells_ints | exact no_mem | with_reducible exact plain_ints | (refine le_maxLen ?_; omega) | (refine za9 ⟨?_,?_⟩) | (simp only [go_sem,Qc,Qb,zb1,zb2,forall_eq]; done)))
 all_goals (first | (simp_all [D.plain]; done))

end Abs.Y

namespace Abs.Y
open Go Go.Proofs Abs
open Nat renaming reduceEqDiff -> Qa, reduceLT -> Qb, reduceAdd -> Qc, reduceMul -> Qd, reduceSub -> Qe, reduceLeDiff -> Qf, reduceSubDiff -> Qg, reduceBEq -> Qh
open Bool renaming not_eq_true' -> Ba, not_eq_false' -> Bb, and_eq_true -> Bc, or_eq_true -> Bd, or_eq_false_iff -> Be
open Int renaming ofNat_lt -> Ia, ofNat_le -> Ib, not_lt -> Ic, not_le -> Ie
open Decidable renaming not_not -> Da
set_option maxRecDepth 100000

def okCnf (v : Int) (cs : List (List Int)) : Bool:=(okVars v && decide (cs.length<=60)) && cs.all (okClause v)
theorem okCnf_bad {v : Int} {cs : List (List Int)} {i : Nat} (h : i < cs.length) (h' : okClause v (cs.getD i [])=false) : okCnf v cs=false:=by
 rw [okCnf,all_false (z:=[]) h h',Bool.and_false]
theorem okCnf_good {v : Int} {cs : List (List Int)} (h : ∀ j,j < cs.length->okClause v (cs.getD j [])=true) : okCnf v cs=(okVars v && decide (cs.length<=60)):=by
 rw [okCnf,all_true (z:=[]) h,Bool.and_true]
theorem isCnf_ok (v : Int) (cs : List (List Int)) (hl : cs.length<=4294967296) (hc : ∀ j,(cs.getD j []).length<=4294967296) :
 Ctr Try.prog 99 [.agg [.int .i64 v,.slice (cs.map D.ints)]] false (.d (.bool (okCnf v cs))) []:=by
 refine Ctr.of (n:=27) (rs:=[.tmp 2]) Try.func99 rfl rfl Try.ntmps99 rfl rfl (by kernel_rfl) Try.checked.mixed ?_
 simp (disch:=first | omega | decide +kernel) only [go_sem,Qa,Qb,Qc,Qd,Qe,↓reduceIte,reduceCtorEq,Qf,Qg,Qh]
 refine Ok.loopC [17,16,15,14,13,12,11,10,9,8,5,4,3,2,0] (fun i => [(8,.d (.int .i64 (i : Nat)))]) cs.length (fun i => ∀ j,j < i->okClause v (cs.getD j [])=true) (by simp) (Wk.kk) ?_
 intro R i hN hE hi hI
 simp (disch:=first | omega | decide +kernel) only [go_sem,Qa,Qb,Qc,Qd,Qe,↓reduceIte,reduceCtorEq,Qf,Qg,Qh]
 (repeat' (first | ((first | (refine gsel_split (fun q' => ?_) (fun q' => ?_)<;>(have h':=q')<;>(try simp only [za1,za2,Ba,Bb,za3,ne_eq,za4,za5,za6,Ia,Ib,Ic,Ie,Da,Bc,Bd,Be,za7,za8] at h')) | (have q':=trivial; first | refine callX_new (isClause_ok v _ (hc _)) rfl (by decide) ?_ | refine callY_new (isClause_ok v _ (hc _)) rfl ?_ | refine callX_new (varsOk_ok _) rfl (by decide) ?_ | refine callY_new (varsOk_ok _) rfl ?_ | refine hE _ _ ret_ne ?_ | refine hE _ _ exit_ne ?_))<;>(try simp (disch:=first | omega | decide +kernel) only [q',go_sem,Qa,Qb,Qc,Qd,Qe,↓reduceIte,reduceCtorEq,Qf,Qg,Qh])<;>clear q') | refine hN _ ?_ ?_ Wk.kk | with_reducible refine And.intro ?_ ?_ | with_reducible omega | exact ok_ints | exact cells_ints | exact no_mem | with_reducible exact plain_ints | (refine le_maxLen ?_; omega) | (refine za9 ⟨?_,?_⟩) | (simp only [go_sem,Qc,Qb,zb1,zb2,forall_eq]; done)))
 . rename_i h1
   rw [okCnf_bad h1 h']
 . exact all_succ hI h'
 . rw [okCnf_good fun j hj => hI j (by omega),h',Bool.true_and,decide_eq_decide.2 (by omega : (cs.length : Int)<=60↔cs.length<=60)]
 . simp [okCnf,h']
theorem l2Good_ok (v : Int) (cs : List (List Int)) (hl : cs.length<=4294967296) (hc : ∀ j,(cs.getD j []).length<=4294967296) :
 Ctr Try.prog 162 [.agg [.int .i64 v,.slice (cs.map D.ints)]] false (.d (.bool (okCnf v cs))) []:=by
 refine Ctr.of (n:=30) (rs:=[.tmp 2]) Try.func162 rfl rfl Try.ntmps162 rfl rfl (by kernel_rfl) Try.checked.mixed ?_
 simp (disch:=first | omega | decide +kernel) only [go_sem,Qa,Qb,Qc,Qd,Qe,↓reduceIte,reduceCtorEq,Qf,Qg,Qh]
 (repeat' (first | ((first | (refine gsel_split (fun q' => ?_) (fun q' => ?_)<;>(have h':=q')<;>(try simp only [za1,za2,Ba,Bb,za3,ne_eq,za4,za5,za6,Ia,Ib,Ic,Ie,Da,Bc,Bd,Be,za7,za8] at h')) | (have q':=trivial; first | refine callX_new (l2Vars_ok _) rfl (by decide) ?_ | refine callY_new (l2Vars_ok _) rfl ?_ | refine hE _ _ ret_ne ?_ | refine hE _ _ exit_ne ?_))<;>(try simp (disch:=first | omega | decide +kernel) only [q',go_sem,Qa,Qb,Qc,Qd,Qe,↓reduceIte,reduceCtorEq,Qf,Qg,Qh])<;>clear q') | refine hN _ ?_ ?_ Wk.kk | with_reducible refine And.intro ?_ ?_ | with_reducible omega | exact ok_ints | exact cells_ints | exact no_mem | with_reducible exact plain_ints | (refine le_maxLen ?_; omega) | (refine za9 ⟨?_,?_⟩) | (simp only [go_sem,Qc,Qb,zb1,zb2,forall_eq]; done)))
 . simp [okCnf,h',D.plain]
 . simp [okCnf,show ¬ cs.length<=60 by omega,D.plain]
 refine Ok.loopC [29,28,27,26,25,24,23,22,21,20,19,18,17,16,15,14,13,12,11,10,9,8,7,6,5,4,3,2,0] (fun i => [(3,.d (.int .i64 (i : Nat)))]) cs.length (fun i => ∀ j,j < i->okClause v (cs.getD j [])=true) (by simp) (Wk.kk) ?_
 intro R i hN hE hi hI
 simp (disch:=first | omega | decide +kernel) only [go_sem,Qa,Qb,Qc,Qd,Qe,↓reduceIte,reduceCtorEq,Qf,Qg,Qh]
 (repeat' (first | ((first | (refine gsel_split (fun q' => ?_) (fun q' => ?_)<;>(have h':=q')<;>(try simp only [za1,za2,Ba,Bb,za3,ne_eq,za4,za5,za6,Ia,Ib,Ic,Ie,Da,Bc,Bd,Be,za7,za8] at h')) | (have q':=trivial; first | refine callX_new (l2Clause_ok v _ (hc _)) rfl (by decide) ?_ | refine callY_new (l2Clause_ok v _ (hc _)) rfl ?_ | refine hE _ _ ret_ne ?_ | refine hE _ _ exit_ne ?_))<;>(try simp (disch:=first | omega | decide +kernel) only [q',go_sem,Qa,Qb,Qc,Qd,Qe,↓reduceIte,reduceCtorEq,Qf,Qg,Qh])<;>clear q') | refine hN _ ?_ ?_ Wk.kk | with_reducible refine And.intro ?_ ?_ | with_reducible omega | exact ok_ints | exact cells_ints | exact no_mem | with_reducible exact plain_ints | (refine le_maxLen ?_; omega) | (refine za9 ⟨?_,?_⟩) | (simp only [go_sem,Qc,Qb,zb1,zb2,forall_eq]; done)))
 . rename_i h1
   rw [okCnf_bad h1 h']
 . exact all_succ hI h'
 . rename_i h0 h1
   rw [okCnf_good fun j hj => hI j (by omega),h0,decide_eq_true (by omega : cs.length<=60)]; rfl
def okEarlier (v : Int) (steps : List Step) (k i : Int) : Bool:=(decide (0<=i) && decide (i<=k - 1)) && okClause v (steps.getD i.toNat Step.z).c
end Abs.Y
