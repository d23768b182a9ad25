/- What functions of this program compute, over plain data. No condition. -/
import Derived.Test.YtkccabajcdphkaaDoorFacts
import Derived.Test.YtkccabajcdphkaaDoorAbsRow
set_option linter.all false
open Nat renaming reduceEqDiff -> Qa, reduceLT -> Qb, reduceAdd -> Qc, reduceMul -> Qd, reduceSub -> Qe, reduceLeDiff -> Qf, reduceSubDiff -> Qg, reduceBEq -> Qh
open Bool renaming not_eq_true' -> Ba, not_eq_false' -> Bb, and_eq_true -> Bc, or_eq_true -> Bh, or_eq_false_iff -> Be
open Int renaming ofNat_lt -> Ia, ofNat_le -> Ib, not_lt -> Ic, not_le -> Ie
open Decidable renaming not_not -> Da
namespace Abs.Y
open Go Go.Proofs Abs
set_option maxRecDepth 100000

theorem within_ok (n lo hi : Int) : Ctr Tryd.prog 71 [.int .i64 n,.int .i64 lo,.int .i64 hi] false (.d (.bool (decide (lo<=n) && decide (n<=hi)))) []:=by
 refine Ctr.of (n:=15) (rs:=[.tmp 6]) Tryd.func71 rfl rfl Tryd.ntmps71 rfl rfl (by kernel_rfl) Tryd.checked.mixed ?_
 simp (disch:=first | omega | decide +kernel) only [go_sem,Qa,Qb,Qc,Qd,Qe,↓reduceIte,reduceCtorEq,Qf,Qg,Qh]
 (repeat' (first | ((first | (refine gsel_split (fun q' => ?_) (fun q' => ?_)<;>(have h':=q')<;>(try simp only [za1,za2,Ba,Bb,za3,ne_eq,za4,za5,za6,Ia,Ib,Ic,Ie,Da,Bc,Bh,Be,za7,za8] at h')<;>try (exfalso; omega)) | (have q':=trivial; first | refine hE _ _ ret_ne ?_ | refine hE _ _ exit_ne ?_))<;>(try simp (disch:=first | omega | decide +kernel) only [q',go_sem,Qa,Qb,Qc,Qd,Qe,↓reduceIte,reduceCtorEq,Qf,Qg,Qh])<;>clear q') | with_reducible refine And.intro ?_ ?_ | with_reducible omega | (refine le_maxLen ?_; omega)))
theorem l1In_ok (x a b : Int) : Ctr Tryd.prog 74 [.int .i64 x,.int .i64 a,.int .i64 b] false (.d (.bool (decide (a<=x) && decide (x<=b)))) []:=by
 refine Ctr.of (n:=15) (rs:=[.tmp 6]) Tryd.func74 rfl rfl Tryd.ntmps74 rfl rfl (by kernel_rfl) Tryd.checked.mixed ?_
 simp (disch:=first | omega | decide +kernel) only [go_sem,Qa,Qb,Qc,Qd,Qe,↓reduceIte,reduceCtorEq,Qf,Qg,Qh]
 (repeat' (first | ((first | (refine gsel_split (fun q' => ?_) (fun q' => ?_)<;>(have h':=q')<;>(try simp only [za1,za2,Ba,Bb,za3,ne_eq,za4,za5,za6,Ia,Ib,Ic,Ie,Da,Bc,Bh,Be,za7,za8] at h')<;>try (exfalso; omega)) | (have q':=trivial; first | refine hE _ _ ret_ne ?_ | refine hE _ _ exit_ne ?_))<;>(try simp (disch:=first | omega | decide +kernel) only [q',go_sem,Qa,Qb,Qc,Qd,Qe,↓reduceIte,reduceCtorEq,Qf,Qg,Qh])<;>clear q') | with_reducible refine And.intro ?_ ?_ | with_reducible omega | (refine le_maxLen ?_; omega)))
def absI (n : Int) : Int:=if IntKind.i64.wrap (0 - n) > n then IntKind.i64.wrap (0 - n) else n
def varI (n : Int) : Int:=if n < 0 then IntKind.i64.wrap (0 - n) else n
def okVars (v : Int) : Bool:=decide (0<=v) && decide (v<=12)
def okLit (v l : Int) : Bool:=decide (l ≠ 0) && (decide (IntKind.i64.wrap (0 - v)<=l) && decide (l<=v))
def okAt (v : Int) (c : List Int) (j : Nat) : Prop:=(c.getD j 0 ≠ 0∧-v<=c.getD j 0∧c.getD j 0<=v)∧(0 < j->(c.getD (j - 1) 0).natAbs < (c.getD j 0).natAbs)
instance (v c j) : Decidable (okAt v c j):=by unfold okAt; infer_instance
def okClause (v : Int) (c : List Int) : Bool:=okVars v && decide (∀ j,j < c.length->okAt v c j)
end Abs.Y

namespace Abs
open Go Go.RowKit

def bitI (b k : Nat) : Int:=if b.testBit k then 1 else 0
end Abs

namespace Abs
open Go Go.RowKit

theorem Wk.obj {N} {st : St} (j : Nat) {o o1 : AO} (hj : lk j st.o=some o) (h : ∀ β S w v F,OK β S w o v F->OK β S w o1 v F) (h0 : o.isRes=false:=by rfl) : Wk N st ⟨st.s,ins j o1 st.o⟩:=fun Z β φ B M w0 a w hs => by
 have hk : ∀ i x,lk i (ins j o1 st.o)=some x->(i=j∧x=o1)∨(i ≠ j∧lk i st.o=some x):=fun i x hi => by
  rw [lk_ins] at hi
  split at hi
  . rename_i e; cases hi; exact .inl ⟨e,rfl⟩
  . rename_i e; exact .inr ⟨e,hi⟩
 have he : ∀ i x,lk i (ins j o1 st.o)=some x->∃ y,lk i st.o=some y∧(x.isRes=false->y.isRes=false):=fun i x hi => by
  rcases hk i x hi with ⟨rfl,_⟩ | ⟨_,h2⟩
  . exact ⟨o,hj,fun _ => h0⟩
  . exact ⟨x,h2,id⟩
 have hS : ∀ g,free Z φ st.o g->g < w.heap.size->free Z φ (ins j o1 st.o) g∧w.heap[g]? = w.heap[g]? := fun g hg _ => ⟨⟨hg.1,fun i x hi hx => by
  obtain ⟨y,hy,hyr⟩:=he i x hi; exact hg.2 i y hy (hyr hx)⟩,rfl⟩
 refine ⟨β,φ,hs.nd.move hS,hs.size,fun i av hi => (hs.slots i av hi).move hS,fun i x hi => ?_,fun i x g hi hg => ?_,fun i i' x x' g hi hi' hg hg' => ?_,hs.fr,hs.z,hs.gw⟩
 . rcases hk i x hi with ⟨rfl,rfl⟩ | ⟨_,h2⟩
   . exact h _ _ _ _ _ ((hs.objs i o hj).move hS (Nat.le_refl _) fun _ _ => rfl)
   . exact (hs.objs i x h2).move hS (Nat.le_refl _) fun _ _ => rfl
 . obtain ⟨y,hy,_⟩:=he i x hi; exact hs.own i y g hy hg
 . obtain ⟨y,hy,_⟩:=he i x hi
   obtain ⟨y',hy',_⟩:=he i' x' hi'
   exact hs.disj i i' y y' g hy hy' hg hg'
theorem Wk.data {N st j o es} (hj : lk j st.o=some o) (ho : rowOf o=some es) : Wk N st (st.frz j es):=fun _ β φ _ _ _ _ _ hs => ⟨β,φ,hs.frz' hj ho⟩

theorem lk_one {α : Type} {j : Nat} {a b : α} (h : lk j [(0,a)]=some b) : j=0∧b=a:=by
 simp only [lk] at h
 split at h
 . rename_i e; cases h; exact ⟨e,rfl⟩
 . cases h
theorem free_one {T : Nat->Prop} {φ : Nat->Nat->Prop} {a b : AO} {g : Nat} (h0 : a.isRes=false) (h : free T φ [(0,a)] g) : free T φ [(0,b)] g:=⟨h.1,fun j x hj _ => by
 obtain ⟨rfl,rfl⟩:=lk_one hj; exact h.2 0 a (by simp [lk]) h0⟩
theorem Ctr.obj {P : Program} {f : FuncId} {xs : List D} {sh : Bool} {res : AV} {o o1 : AO} (h : ∀ β S w v F,OK β S w o v F->OK β S w o1 v F) (hc : Ctr P f xs sh res [(0,o)]) (h0 : o.isRes=false:=by rfl) : Ctr P f xs sh res [(0,o1)]:=by
 refine ⟨hc.1,fun S w vs hl hr hG => (hc.2 S w vs hl hr hG).mono fun en w' ⟨v,he,hf,β,φ,h1,h2,h3,h4⟩ => ⟨v,he,hf,β,φ,h1.move fun g hg _ => ⟨free_one h0 hg,rfl⟩,fun j x hj => ?_,fun j x g hj hg => ?_,fun j j' x x' g hj hj' _ _ => ?_⟩⟩
 . obtain ⟨rfl,rfl⟩:=lk_one hj
   exact h _ _ _ _ _ ((h2 0 o (by simp [lk])).move (fun g hg _ => ⟨free_one h0 hg,rfl⟩) (Nat.le_refl _) fun _ _ => rfl)
 . obtain ⟨rfl,rfl⟩:=lk_one hj
   exact h3 0 o g (by simp [lk]) hg
 . rw [(lk_one hj).1,(lk_one hj').1]
theorem CtrM.obj {P : Program} {f : FuncId} {avs : List AV} {oi : List (Nat × AO)} {keep : List Nat} {sh : Bool} {res : AV} {o o1 : AO} (h : ∀ β S w v F,OK β S w o v F->OK β S w o1 v F) (hc : CtrM P f avs oi keep sh res [(0,o)]) (hr0 : o.isRes=false:=by rfl) : CtrM P f avs oi keep sh res [(0,o1)]:=by
 refine ⟨hc.1,fun S β φ w vs hl hr hO hD hG => (hc.2 S β φ w vs hl hr hO hD hG).mono fun en w' ⟨v,he,hf,β',φ',h0,h1,h2,h3,h4⟩ => ⟨v,he,hf,β',φ',h0,h1.move fun g hg _ => ⟨free_one hr0 hg,rfl⟩,fun j x hj => ?_,fun j x g hj hg => ?_,fun j j' x x' g hj hj' _ _ => ?_⟩⟩
 . obtain ⟨rfl,rfl⟩:=lk_one hj
   exact h _ _ _ _ _ ((h2 0 o (by simp [lk])).move (fun g hg _ => ⟨free_one hr0 hg,rfl⟩) (Nat.le_refl _) fun _ _ => rfl)
 . obtain ⟨rfl,rfl⟩:=lk_one hj
   exact h3 0 o g (by simp [lk]) hg
 . rw [(lk_one hj).1,(lk_one hj').1]
def cntI (k : Int) : Nat->List Int
 | 0 => []
 | n + 1 => k :: cntI (k + 1) n
end Abs
namespace Abs
end Abs
namespace Abs
def cntSS : List (List Int)->Int->List (List Int)
 | [],_ => []
 | x :: r,k => cntI k x.length :: cntSS r (k + x.length)
def lenSS : List (List Int)->Nat
 | [] => 0
 | x :: r => x.length + lenSS r
def offSS (a : List (List Int)) (k : Int) (i : Nat) : Int:=k + (lenSS (a.take i) : Nat)
def lenST : List Step->Nat
 | [] => 0
 | s :: r => s.c.length + 3 + lenST r
def cntST1 (s : Step) (k : Int) : Step:=⟨cntI k s.c.length,k + s.c.length,k + s.c.length + 1,k + s.c.length + 2⟩
def cntST : List Step->Int->List Step
 | [],_ => []
 | s :: r,k => cntST1 s k :: cntST r (k + s.c.length + 3)
def offST (a : List Step) (k : Int) (i : Nat) : Int:=k + (lenST (a.take i) : Nat)
end Abs
namespace Abs
end Abs
namespace Abs
end Abs
namespace Abs
end Abs
namespace Abs
open Go Go.RowKit
end Abs

namespace Abs

def szL {α : Type} (f : α->Int->Int) : List α->Int->Int
 | [],left => left
 | x :: r,left => if f x left < 0 then -1 else szL f r (f x left)
def szS {α : Type} (f : α->Int->Int) (a : List α) (left : Int) : Int:=if left - a.length < 0 then -1 else szL f a (left - a.length)
def szI (a : List Int) (left : Int) : Int:=if left - a.length < 0 then -1 else left - a.length
def SzF {α : Type} (f : α->Int->Int) : Prop:=∀ x left,0<=left->f x left=-1∨(0<=f x left∧f x left<=left)
end Abs

namespace Abs
open Go Go.RowKit

mutual
def AV.bfz (j : Nat) (x : D) : AV->AV
 | .sl i => if i=j then .undef else .sl i
 | .p i o => if i=j then (if o=0 then .d (.ptr x) else .undef) else .p i o
 | .pe i k n o => if i=j then .undef else .pe i k n o
 | .mq i => if i=j then .undef else .mq i
 | .sf i k l => if i=j then .undef else .sf i k l
 | .vw i q n k => if q=j then .undef else .vw i q n k
 | .pv i q k n o => if q=j then .undef else .pv i q k n o
 | .tup xs => .tup (AV.bfzL j x xs)
 | .st xs => .st (AV.bfzL j x xs)
 | .fn f cs => .fn f (AV.bfzL j x cs)
 | y => y
def AV.bfzL (j : Nat) (x : D) : List AV->List AV
 | [] => []
 | y :: r => y.bfz j x :: AV.bfzL j x r
end
theorem bfzL_length {j x} : ∀ xs : List AV,(AV.bfzL j x xs).length=xs.length
 | [] => rfl
 | y :: r => by simp [AV.bfzL,bfzL_length r]
theorem bfzL_getD {j x} : ∀ (xs : List AV) (i : Nat),(AV.bfzL j x xs).getD i .undef=(xs.getD i .undef).bfz j x
 | [],i => by simp [AV.bfzL,AV.bfz]
 | y :: r,0 => by simp [AV.bfzL]
 | y :: r,i + 1 => by simpa [AV.bfzL] using bfzL_getD r i
def bfzS (j : Nat) (x : D) : List (Nat × AV)->List (Nat × AV)
 | [] => []
 | (k,v) :: r => (k,v.bfz j x) :: bfzS j x r
def AO.bfz (j : Nat) (x : D) : AO->AO
 | .box e cells => .box e (AV.bfzL j x cells)
 | .dp t xs (some (c,some d)) => .dp t xs (if d=j then some (c,none) else some (c,some d))
 | y => y
def bfzO (j : Nat) (x : D) : List (Nat × AO)->List (Nat × AO)
 | [] => []
 | (k,v) :: r => if k=j then bfzO j x r else (k,v.bfz j x) :: bfzO j x r
theorem lk_bfzS {i j x} : ∀ {l : List (Nat × AV)} {v},lk i (bfzS j x l)=some v->∃ u,lk i l=some u∧v=u.bfz j x
 | [],_,h => by simp [bfzS,lk] at h
 | (k, u) :: r, v, h => by
   simp only [bfzS,lk] at h
   simp only [lk]
   split at h
   . rename_i e; rw [if_pos e]; cases h; exact ⟨u,rfl,rfl⟩
   . rename_i e; rw [if_neg e]; exact lk_bfzS h
theorem lk_bfzO {i j x} : ∀ {l : List (Nat × AO)} {o},lk i (bfzO j x l)=some o->i ≠ j∧∃ o',lk i l=some o'∧o=o'.bfz j x
 | [],_,h => by simp [bfzO,lk] at h
 | (k, v) :: r, o, h => by
   simp only [bfzO] at h
   split at h
   . rename_i hk
     obtain ⟨h1,o',h2,h3⟩:=lk_bfzO h
     exact ⟨h1,o',by simp only [lk]; rw [if_neg (by omega)]; exact h2,h3⟩
   . rename_i hk
     simp only [lk] at h
     split at h
     . rename_i e; subst e; cases h; exact ⟨hk,v,by simp [lk],rfl⟩
     . rename_i e
       obtain ⟨h1,o',h2,h3⟩:=lk_bfzO h
       exact ⟨h1,o',by simp only [lk]; rw [if_neg e]; exact h2,h3⟩
theorem Rel.bfz {β S w j x b n c} (hb : β j=.slice (some ⟨b,0,none⟩) n c) (hr : Rd S w (.ptr x) (.pointer (some ⟨b,0,none⟩))) : ∀ {av v},Rel β S w av v->Rel β S w (av.bfz j x) v:=by
 intro av v h
 induction h with
 | undef v => exact .undef v
 | d h => exact .d h
 | sl i =>
   simp only [AV.bfz]; split
   . exact .undef _
   . exact .sl i
 | p h =>
   simp only [AV.bfz]; split
   . rename_i e; subst e
     rw [hb] at h; cases h
     split
     . rename_i e0; subst e0; exact .d hr
     . exact .undef _
   . exact .p h
 | pe h =>
   simp only [AV.bfz]; split
   . exact .undef _
   . exact .pe h
 | mq h =>
   simp only [AV.bfz]; split
   . exact .undef _
   . exact .mq h
 | sf h hl =>
   simp only [AV.bfz]; split
   . exact .undef _
   . exact .sf h hl
 | vw h =>
   simp only [AV.bfz]; split
   . exact .undef _
   . exact .vw h
 | pv h =>
   simp only [AV.bfz]; split
   . exact .undef _
   . exact .pv h
 | tup hl _ ih => exact .tup (by rw [bfzL_length]; exact hl) fun i hi => by rw [bfzL_length] at hi; rw [bfzL_getD]; exact ih i hi
 | fn hl _ ih => exact .fn (by rw [bfzL_length]; exact hl) fun i hi => by rw [bfzL_length] at hi; rw [bfzL_getD]; exact ih i hi
 | e0n => exact .e0n
 | e0s ad => exact .e0s ad
 | hdr h => exact .hdr h
 | nilS => exact .nilS
 | st hl _ ih => exact .st (by rw [bfzL_length]; exact hl) fun i hi => by rw [bfzL_length] at hi; rw [bfzL_getD]; exact ih i hi
theorem OK.bfz {β S w j x b n c o v F} (hb : β j=.slice (some ⟨b,0,none⟩) n c) (hr : Rd S w (.ptr x) (.pointer (some ⟨b,0,none⟩))) (h : OK β S w o v F) : OK β S w (o.bfz j x) v F:=by
 cases h with
 | box hF xs hv hw hrel =>
   exact .box hF xs hv (by rw [bfzL_length]; exact hw) fun i hi => by rw [bfzL_length] at hi; rw [bfzL_getD]; exact (hrel i hi).bfz hb hr
 | arr hF xs hk0 hk hw hrel => exact .arr hF xs hk0 hk hw hrel
 | arv hF xs hv hk0 hk hw hrel => exact .arv hF xs hv hk0 hk hw hrel
 | mp b ms c hF hv hbb he => exact .mp b ms c hF hv hbb he
 | res hv hlt fs hr2 hf hd => exact .res hv hlt fs hr2 hf hd
 | arw hlt xs hk0 hk hw hbb hr2 hv => exact .arw hlt xs hk0 hk hw hbb hr2 hv
 | view hF b c hv => exact .view hF b c hv
 | d1 hlt h => exact .d1 hlt h
 | dp hlt h =>
   rename_i t xs ho
   rcases h with ⟨rfl,rfl,rfl,h⟩ | ⟨e,k,ys,fs,ht,h⟩
   . exact .dp hlt (.inl ⟨rfl,rfl,rfl,h⟩)
   . rcases ho with _ | ⟨c',_ | d⟩
     . exact .dp hlt (.inr ⟨e,k,ys,fs,ht,h⟩)
     . exact .dp hlt (.inr ⟨e,k,ys,fs,ht,h⟩)
     . simp only [AO.bfz]
       split
       . exact .dp hlt (.inr ⟨e,k,ys,fs,ht,{ h with hr:=fun i hi hn => h.hr i hi fun c' d' e => by cases e; exact hn _ none rfl,hh:=fun _ _ h => by cases h }⟩)
       . exact .dp hlt (.inr ⟨e,k,ys,fs,ht,h⟩)
theorem bfz_res {j x} {o : AO} (h : (o.bfz j x).isRes=false) : o.isRes=false:=by
 cases o<;>first | rfl | exact h
theorem Wk.bfz {N} {S : List (Nat × AV)} {O : List (Nat × AO)} (j : Nat) (x : D) {e : TypeId} {cells : List AV} (hj : lk j O=some (.box e cells)) (hx : cells=x.cells.map .d) : Wk N ⟨S,O⟩ ⟨bfzS j x S,bfzO j x O⟩:=fun Z β φ B M w0 a w h => by
 subst hx
 have hO:=h.objs j _ hj
 have hS : ∀ g,free Z φ O g->g < w.heap.size->free Z φ (bfzO j x O) g∧w.heap[g]? = w.heap[g]? := fun g hg _ => by
  refine ⟨⟨hg.1,fun i y hi hy => ?_⟩,rfl⟩
  obtain ⟨hne,o',ho',rfl⟩:=lk_bfzO hi
  exact hg.2 i o' ho' (bfz_res hy)
 obtain ⟨b,c,hb,hr⟩ : ∃ b c,β j=.slice (some ⟨b,0,none⟩) 1 c∧Rd (free Z φ (bfzO j x O)) w (.ptr x) (.pointer (some ⟨b,0,none⟩)):=by
  have hdis : ∀ g,φ j g->free Z φ (bfzO j x O) g:=fun g hg => ⟨h.z g (h.own j _ g hj hg),fun i y hi _ hgi => by
   obtain ⟨hne,o',ho',_⟩:=lk_bfzO hi
   exact hne (h.disj i j o' _ g ho' hj hgi hg)⟩
  generalize φ j=F at *
  generalize β j=v at *
  cases hO with
  | box hF xs hv hw hrel =>
    have hw':=hw
    rcases hw.2 with ⟨h1,_⟩ | ⟨g,cap,cur,h1,_,h3,h4,_⟩
    . exact absurd h1 hv
    . subst h1
      refine ⟨g,cap,rfl,.ptr (fun i => xs.getD i Go.undef) (fun i hi => ⟨hdis g (by rw [hF]; rfl),?_⟩) fun i hi => ?_⟩
      . have h9 : i < xs.length:=by rw [hw'.1,Nat.one_mul,List.length_map]; exact hi
        have h10:=ownsRow_cell hw' rfl h9
        rwa [Nat.zero_add]
      . have h5:=hrel i (by simpa using hi)
        have h6 : (x.cells.map AV.d).getD i .undef=.d (x.cells.getD i .nilptr):=by
         simp [List.getD_eq_getElem?_getD,hi]
        rw [h6] at h5
        cases h5 with
        | d h5 => exact h5.move hS
 refine ⟨β,φ,h.nd.move hS,h.size,fun i av hi => ?_,fun i o hi => ?_,fun i o g hi hg => ?_,fun i i' o o' g hi hi' hg hg' => ?_,h.fr,h.z,h.gw⟩
 . obtain ⟨u,hu,rfl⟩:=lk_bfzS hi
   exact ((h.slots i u hu).move hS).bfz hb hr
 . obtain ⟨hne,o',ho',rfl⟩:=lk_bfzO hi
   exact ((h.objs i o' ho').move hS (Nat.le_refl _) (fun _ _ => rfl)).bfz hb hr
 . obtain ⟨hne,o',ho',_⟩:=lk_bfzO hi
   exact h.own i o' g ho' hg
 . obtain ⟨hne,y,hy,_⟩:=lk_bfzO hi
   obtain ⟨hne',y',hy',_⟩:=lk_bfzO hi'
   exact h.disj i i' y y' g hy hy' hg hg'
def cutQ (P : Program) (N : Nat) (y : Code) (Q : Exit->St->Prop) (st : St) : Prop:=∃ st',Wk N st st'∧Awp P N y Q st'
theorem Ctr.tupN {P : Program} {f : FuncId} {xs ys : List D} {sh : Bool} (h : Ctr P f xs sh (.tup (ys.map .d)) []) : Ctr P f xs sh (.d (.tup ys)) []:=by
 refine ⟨h.1,fun S w vs hvl hvr hG => (h.2 S w vs hvl hvr hG).mono fun e w' ⟨v,he,hF,β,φ,hR,h1,h2,h3⟩ => ⟨v,he,hF,β,φ,?_,h1,h2,h3⟩⟩
 cases hR with
 | tup hl hr =>
   refine .d (.tup (by simpa using hl) fun i hi => ?_)
   have:=hr i (by simpa using hi)
   have e : (ys.map AV.d).getD i .undef=.d (ys.getD i .nilptr):=by simp [List.getD_eq_getElem?_getD,hi]
   rw [e] at this
   cases this with
   | d h => exact h
end Abs
