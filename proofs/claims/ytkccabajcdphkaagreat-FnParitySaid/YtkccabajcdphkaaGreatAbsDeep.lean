/- What functions of this program compute, over plain data. No condition. -/
import Derived.Test.YtkccabajcdphkaaGreatAbsQuiet
set_option linter.all false
namespace Abs
open Go Go.RowKit

mutual
def AV.frz (j : Nat) (es : List D) : AV->AV
 | .sl i => if i=j then .d (.slice es) else .sl i
 | .p i o => if i=j then .undef else .p i o
 | .pe i k n o => if i=j then .undef else .pe i k n o
 | .mq i => if i=j then .undef else .mq i
 | .sf i k l => if i=j then .undef else .sf i k l
 | .vw i q n k => if q=j then .undef else .vw i q n k
 | .pv i q k n o => if q=j then .undef else .pv i q k n o
 | .tup xs => .tup (AV.frzL j es xs)
 | .st xs => .st (AV.frzL j es xs)
 | .fn f cs => .fn f (AV.frzL j es cs)
 | x => x
def AV.frzL (j : Nat) (es : List D) : List AV->List AV
 | [] => []
 | x :: r => x.frz j es :: AV.frzL j es r
end
theorem xh9 {j es} : ∀ xs : List AV,(AV.frzL j es xs).length=xs.length
 | [] => rfl
 | x :: r => by simp [AV.frzL,xh9 r]
theorem xx3 {j es} : ∀ (xs : List AV) (i : Nat),(AV.frzL j es xs).getD i .undef=(xs.getD i .undef).frz j es
 | [],i => by simp [AV.frzL,AV.frz]
 | x :: r,0 => by simp [AV.frzL]
 | x :: r,i + 1 => by simpa [AV.frzL] using xx3 r i

def frzS (j : Nat) (es : List D) : List (Nat × AV)->List (Nat × AV)
 | [] => []
 | (k,v) :: r => (k,v.frz j es) :: frzS j es r
def AO.frz (j : Nat) (es : List D) : AO->AO
 | .box e cells => .box e (AV.frzL j es cells)
 | .dp t xs (some (c,some d)) => .dp t xs (if d=j then some (c,none) else some (c,some d))
 | x => x
def frzO (j : Nat) (es : List D) : List (Nat × AO)->List (Nat × AO)
 | [] => []
 | (k,v) :: r => if k=j then frzO j es r else (k,v.frz j es) :: frzO j es r
def St.frz (j : Nat) (es : List D) (st : St) : St:=⟨frzS j es st.s,frzO j es st.o⟩

theorem zr7 {i j es} : ∀ {l : List (Nat × AV)} {v},lk i (frzS j es l)=some v->∃ u,lk i l=some u∧v=u.frz j es
 | [],_,h => by simp [frzS,lk] at h
 | (k, u) :: r, v, h => by
   simp only [frzS,lk] at h
   simp only [lk]
   split at h
   . rename_i e; rw [if_pos e]; cases h; exact ⟨u,rfl,rfl⟩
   . rename_i e; rw [if_neg e]; exact zr7 h
theorem xr1 {i j es} : ∀ {l : List (Nat × AO)} {o},lk i (frzO j es l)=some o->i ≠ j∧∃ o',lk i l=some o'∧o=o'.frz j es
 | [],_,h => by simp [frzO,lk] at h
 | (k, v) :: r, o, h => by
   simp only [frzO] at h
   split at h
   . rename_i hk
     obtain ⟨h1,o',h2,h3⟩:=xr1 h
     exact ⟨h1,o',by simp only [lk]; rw [if_neg (by omega)]; exact h2,h3⟩
   . rename_i hk
     simp only [lk] at h
     split at h
     . rename_i e; subst e; cases h; exact ⟨hk,v,by simp [lk],rfl⟩
     . rename_i e
       obtain ⟨h1,o',h2,h3⟩:=xr1 h
       exact ⟨h1,o',by simp only [lk]; rw [if_neg e]; exact h2,h3⟩

theorem Dp.rd {w} : ∀ {x v F},Dp w x v F->∀ {S : Nat->Prop},(∀ g,F g->S g)->Rd S w x v:=by
 intro x v F h
 induction h with
 | int k n => exact fun _ => .int k n
 | bool b => exact fun _ => .bool b
 | str s => exact fun _ => .str s
 | nil v _ h => exact fun _ => Dp.rd_bare (F:=fun _ => True) rfl (.nil v _ h)
 | sl1 _ _ ih => exact fun hS => .sl1 (ih hS)
 | slice xs fs hk0 hk hw hb hf hd hr ih =>
   rename_i es v F e k
   intro S hS
   rcases hw.2 with ⟨h1,h2⟩ | ⟨g,cap,cur,h1,_,h3,h4,_⟩
   . have : es=[]:=List.eq_nil_of_length_eq_zero h2
     subst this; subst h1; exact .nil _
   . have hfl : (flat es).length=xs.length:=by rw [xa9 hk,hw.1]
     subst h1
     exact .slice (fun i => xs.getD i Go.undef) hk h4 (fun i hi => ⟨hS _ (hb g rfl).1,by rw [Nat.zero_add]; exact xc3 hw rfl (by omega)⟩)
      fun i hi => ih i hi fun g hg => hS g (hf i g hg)
theorem DpO.dp {β w t es v F} (h : DpO β w t es none v F) : Dp w (.slice es) v F:=by
 rcases h with ⟨_,_,rfl,h⟩ | ⟨e,k,xs,fs,_,h⟩
 . exact .nil v F h
 . exact .slice xs fs h.hk0 h.hk h.hw h.hb h.hf h.hd fun i hi => h.hr i hi (by simp)
theorem DpO.of {β w es v F} (h : Dp w (.slice es) v F) : DpO β w none es none v F:=by
 cases h with
 | nil v _ h => exact .inl ⟨rfl,rfl,rfl,h⟩
 | slice xs fs hk0 hk hw hb hf hd hr => exact .inr ⟨_,_,xs,fs,.inl rfl,hk0,hk,hw,hb,hf,hd,fun i hi _ => hr i hi,fun _ _ h => by cases h⟩

theorem ym5 {β S w e k es v F} (h : OK β S w (.arr e k es) v F) {S' : Nat->Prop} (hS : ∀ g,S g->g < w.heap.size->S' g) (hg : ∀ g,F g->S' g) : Rd S' w (.slice es) v:=by
 cases h with
 | arr hF xs hk0 hk hw hr =>
   subst hF
   have hw':=hw
   rcases hw.2 with ⟨h1,h2⟩ | ⟨g,cap,cur,h1,_,h3,h4,_⟩
   . have : es=[]:=List.eq_nil_of_length_eq_zero h2
     subst this; subst h1; exact .nil _
   . have hfl : (flat es).length=xs.length:=by rw [xa9 hk,hw.1]
     subst h1
     exact .slice (fun i => xs.getD i Go.undef) hk h4 (fun i hi => ⟨hg g rfl,by rw [Nat.zero_add]; exact xc3 hw' rfl (by omega)⟩)
      fun i hi => (hr i hi).move fun g hg hl => ⟨hS g hg hl,rfl⟩
theorem zk3 {β S w t es v F} (h : OK β S w (.dp t es none) v F) {S' : Nat->Prop} (hg : ∀ g,F g->S' g) : Rd S' w (.slice es) v:=by
 cases h with
 | dp hlt h => exact h.dp.rd hg

theorem Rel.frz {β S w j es} (hr : Rd S w (.slice es) (β j)) : ∀ {av v},Rel β S w av v->Rel β S w (av.frz j es) v:=by
 intro av v h
 induction h with
 | undef v => exact .undef v
 | d h => exact .d h
 | sl i =>
   simp only [AV.frz]; split
   . rename_i e; subst e; exact .d hr
   . exact .sl i
 | p h =>
   simp only [AV.frz]; split
   . exact .undef _
   . exact .p h
 | pe h =>
   simp only [AV.frz]; split
   . exact .undef _
   . exact .pe h
 | mq h =>
   simp only [AV.frz]; split
   . exact .undef _
   . exact .mq h
 | sf h hl =>
   simp only [AV.frz]; split
   . exact .undef _
   . exact .sf h hl
 | vw h =>
   simp only [AV.frz]; split
   . exact .undef _
   . exact .vw h
 | pv h =>
   simp only [AV.frz]; split
   . exact .undef _
   . exact .pv h
 | tup hl _ ih => exact .tup (by rw [xh9]; exact hl) fun i hi => by rw [xh9] at hi; rw [xx3]; exact ih i hi
 | fn hl _ ih => exact .fn (by rw [xh9]; exact hl) fun i hi => by rw [xh9] at hi; rw [xx3]; exact ih i hi
 | e0n => exact .e0n
 | e0s ad => exact .e0s ad
 | hdr h => exact .hdr h
 | nilS => exact .nilS
 | st hl _ ih => exact .st (by rw [xh9]; exact hl) fun i hi => by rw [xh9] at hi; rw [xx3]; exact ih i hi

theorem OK.frz {β S w j es o v F} (hr : Rd S w (.slice es) (β j)) (h : OK β S w o v F) : OK β S w (o.frz j es) v F:=by
 cases h with
 | box hF xs hv hw hrel =>
   exact .box hF xs hv (by rw [xh9]; exact hw) fun i hi => by rw [xh9] at hi; rw [xx3]; exact (hrel i hi).frz hr
 | arr hF xs hk0 hk hw hrel => exact .arr hF xs hk0 hk hw hrel
 | arv hF xs hv hk0 hk hw hrel => exact .arv hF xs hv hk0 hk hw hrel
 | mp b ms c hF hv hbb he => exact .mp b ms c hF hv hbb he
 | res hv hlt fs hr2 hf hd => exact .res hv hlt fs hr2 hf hd
 | arw hlt xs hk0 hk hw hbb hr2 hv => exact .arw hlt xs hk0 hk hw hbb hr2 hv
 | view hF b c hv => exact .view hF b c hv
 | d1 hlt h => exact .d1 hlt h
 | dp hlt h =>
   rename_i t xs ho
   rcases h with ⟨rfl,rfl,rfl,h⟩ | ⟨e,k,ys,fs,ht,h⟩
   . exact .dp hlt (.inl ⟨rfl,rfl,rfl,h⟩)
   . rcases ho with _ | ⟨c,_ | d⟩
     . exact .dp hlt (.inr ⟨e,k,ys,fs,ht,h⟩)
     . exact .dp hlt (.inr ⟨e,k,ys,fs,ht,h⟩)
     . simp only [AO.frz]
       split
       . exact .dp hlt (.inr ⟨e,k,ys,fs,ht,{ h with hr:=fun i hi hn => h.hr i hi fun c' d' e => by cases e; exact hn _ none rfl,hh:=fun _ _ h => by cases h }⟩)
       . exact .dp hlt (.inr ⟨e,k,ys,fs,ht,h⟩)

def zg6 : AO->Option (List D)
 | .arr _ _ es => some es
 | .dp _ es none => some es
 | _ => none
theorem xw4 {β S w o es v F} (h : OK β S w o v F) (ho : zg6 o=some es) {S' : Nat->Prop} (hS : ∀ g,S g->g < w.heap.size->S' g) (hg : ∀ g,F g->S' g) : Rd S' w (.slice es) v:=by
 cases o with
 | arr e k es' => cases ho; exact ym5 h hS hg
 | dp t es' ho' => cases ho' with
   | none => cases ho; exact zk3 h hg
   | some p => cases ho
 | _ => cases ho

theorem zh9 {j es} {o : AO} (h : (o.frz j es).isRes=false) : o.isRes=false:=by
 unfold AO.frz at h; split at h<;>first | rfl | exact h
theorem SimB.frz' {Z β φ N B M w0 st a w} (h : SimB Z β φ N B M w0 st a w) {j ob es} (hj : lk j st.o=some ob) (hob : zg6 ob=some es) : SimB Z β φ N B M w0 (st.frz j es) a w:=by
 have hS : ∀ g,free Z φ st.o g->g < w.heap.size->free Z φ (st.frz j es).o g∧w.heap[g]? = w.heap[g]? := fun g hg _ => by
  refine ⟨⟨hg.1,fun i x hi hx => ?_⟩,rfl⟩
  obtain ⟨hne,o',ho',rfl⟩:=xr1 hi
  exact hg.2 i o' ho' (zh9 hx)
 have hr : Rd (free Z φ (st.frz j es).o) w (.slice es) (β j):=xw4 (h.objs j _ hj) hob (fun g hg hl => (hS g hg hl).1) fun g hg => ⟨h.z g (h.own j _ g hj hg),fun i x hi _ hgi => by
  obtain ⟨hne,o',ho',_⟩:=xr1 hi
  exact hne (h.disj i j o' _ g ho' hj hgi hg)⟩
 refine ⟨h.nd.move hS,h.size,fun i av hi => ?_,fun i o hi => ?_,fun i o g hi hg => ?_,fun i i' o o' g hi hi' hg hg' => ?_,h.fr,h.z⟩
 . obtain ⟨u,hu,rfl⟩:=zr7 hi
   exact ((h.slots i u hu).move hS).frz hr
 . obtain ⟨hne,o',ho',rfl⟩:=xr1 hi
   exact ((h.objs i o' ho').move hS (Nat.le_refl _) (fun _ _ => rfl)).frz hr
 . obtain ⟨hne,o',ho',_⟩:=xr1 hi
   exact h.own i o' g ho' hg
 . obtain ⟨hne,x,hx,_⟩:=xr1 hi
   obtain ⟨hne',x',hx',_⟩:=xr1 hi'
   exact h.disj i i' x x' g hx hx' hg hg'
theorem SimB.frz {Z β φ N B M w0 st a w} (h : SimB Z β φ N B M w0 st a w) {j e k es} (hj : lk j st.o=some (.arr e k es)) : SimB Z β φ N B M w0 (st.frz j es) a w:=h.frz' hj rfl

def dOf (st : St) (x : Operand) : Option (D × St) :=
 match ev st x with
 | some (.d y) => some (y,st)
 | some .e0 => some (.slice [],st)
 | some (.sl j) => match lk j st.o with
   | some (.arr _ _ es) => some (.slice es,st.frz j es)
   | _ => none
 | _ => none

theorem yz0 {Z β φ N B M w0 st a w} (h : SimB Z β φ N B M w0 st a w) {x y st'} (hx : dOf st x=some (y,st')) :
 SimB Z β φ N B M w0 st' a w∧Rd (free Z φ st'.o) w y (a.eval x):=by
 unfold dOf at hx
 split at hx
 . rename_i z hz
   cases hx
   exact ⟨h,ev_d h hz⟩
 . rename_i hz
   cases hx
   refine ⟨h,?_⟩
   have:=xc8 h hz
   generalize a.eval x=v at *
   cases this with
   | e0n => exact .nil _
   | e0s b => exact .nil _
 . rename_i j hz
   split at hx
   . rename_i e k es hj
     cases hx
     have h':=h.frz hj
     refine ⟨h',?_⟩
     rw [xv5 h hz]
     exact ym5 (h.objs j _ hj) (fun g hg hl => ⟨hg.1,fun i x hi hx => by
      obtain ⟨hne,o',ho',rfl⟩:=xr1 hi
      exact hg.2 i o' ho' (zh9 hx)⟩) fun g hg => ⟨h.z g (h.own j _ g hj hg),fun i x hi _ hgi => by
      obtain ⟨hne,o',ho',_⟩:=xr1 hi
      exact hne (h.disj i j o' _ g ho' hj hgi hg)⟩
   . cases hx
 . cases hx
theorem dOf_free {Z : Nat->Prop} {φ st x y st'} (hx : dOf st x=some (y,st')) {g} (hg : free Z φ st.o g) : free Z φ st'.o g:=by
 unfold dOf at hx
 split at hx
 . cases hx; exact hg
 . cases hx; exact hg
 . split at hx
   . cases hx
     refine ⟨hg.1,fun i x hi hx => ?_⟩
     obtain ⟨hne,o',ho',rfl⟩:=xr1 hi
     exact hg.2 i o' ho' (zh9 hx)
   . cases hx
 . cases hx
end Abs

namespace Abs
open Go Go.RowKit

def setL {α : Type} (ds : List α) (off : Nat) (xs : List α) : List α:=ds.take off++xs++ds.drop (off + xs.length)
theorem xd5 {α : Type} {ds : List α} {off} {xs : List α} (h : off + xs.length<=ds.length) : (setL ds off xs).length=ds.length:=by
 simp [setL]; omega
theorem xe2 {α : Type} {ds : List α} {off} {xs : List α} {z : α} (h : off + xs.length<=ds.length) (i : Nat) :
 (setL ds off xs).getD i z=if off<=i∧i < off + xs.length then xs.getD (i - off) z else ds.getD i z:=by
 simp only [setL,List.getD_eq_getElem?_getD]
 by_cases h1 : i < off
 . rw [if_neg (by omega),List.append_assoc,List.getElem?_append_left (by simp; omega),List.getElem?_take,if_pos h1]
 . by_cases h2 : i < off + xs.length
   . rw [if_pos (by omega),List.append_assoc,List.getElem?_append_right (by simp; omega),List.getElem?_append_left (by simp; omega)]
     congr 2; simp; omega
   . rw [if_neg (by omega),List.getElem?_append_right (by simp; omega),List.getElem?_drop]
     congr 2; simp; omega

def D.atom : D->Bool
 | .agg _ => false
 | .tup _ => false
 | _ => true
def D.ok (k : Nat) (x : D) : Prop:=x.cells.length=k∧∀ c ∈ x.cells,c.atom=true

theorem xz4 {S w x v} (h : Rd S w x v) (ha : x.atom=true) : v.oneCell'=true:=by
 cases h<;>first | rfl | (cases ha; done) | (rename_i h; cases h<;>rfl)
theorem xe3 {S w x v} (h : Rd S w x v) : v.cells.toList.length=x.cells.length∧∀ i,i < x.cells.length->Rd S w (x.cells.getD i .nilptr) (v.cells.toList.getD i Go.undef):=by
 have one : ∀ {y u},Rd S w y u->y.cells=[y]->u.cells=#[u] ->
  u.cells.toList.length=y.cells.length∧∀ i,i < y.cells.length->Rd S w (y.cells.getD i .nilptr) (u.cells.toList.getD i Go.undef):=by
  intro y u hy e1 e2
  rw [e1,e2]
  refine ⟨rfl,fun i hi => ?_⟩
  have : i=0:=by simpa using hi
  subst this; simpa using hy
 cases h with
 | agg hl hr => exact ⟨by simpa [Value.cells,D.cells] using hl,by simpa [Value.cells,D.cells] using hr⟩
 | int k n => exact one (.int k n) rfl rfl
 | bool b => exact one (.bool b) rfl rfl
 | str s => exact one (.str s) rfl rfl
 | nil a0 => exact one (.nil a0) rfl rfl
 | slice vs hk hcap hc hr => exact one (.slice vs hk hcap hc hr) rfl rfl
 | ptr vs hc hr => exact one (.ptr vs hc hr) rfl rfl
 | nilptr => exact one .nilptr rfl rfl
 | fn hl hl' hr hr' => exact one (.fn hl hl' hr hr') rfl rfl
 | nilfn => exact one .nilfn rfl rfl
 | map ms hS hb he => exact one (.map ms hS hb he) rfl rfl
 | nilmap => exact one .nilmap rfl rfl
 | tag h' => exact one (.tag h') rfl (by cases h'<;>rfl)
 | sl1 h' => exact one (.sl1 h') rfl (by cases h'<;>rfl)
 | tup hl hr => exact one (.tup hl hr) rfl rfl
theorem yn2 {S w x v} (h : Rd S w x v) {k} (hk : x.ok k) : ∀ u ∈ v.cells.toList,u.oneCell'=true:=by
 obtain ⟨h1,h2⟩:=xe3 h
 intro u hu
 obtain ⟨i,hi,rfl⟩:=List.getElem_of_mem hu
 have hi' : i < x.cells.length:=by omega
 have:=h2 i hi'
 rw [List.getD_eq_getElem?_getD,List.getD_eq_getElem?_getD,List.getElem?_eq_getElem hi,List.getElem?_eq_getElem hi'] at this
 exact xz4 this (hk.2 _ (List.getElem_mem hi'))

def stOK : List AV->Bool
 | [] => true
 | .d y :: r => y.atom && stOK r
 | .sl _ :: r => stOK r
 | .nilS :: r => stOK r
 | .mq _ :: r => stOK r
 | _ :: _ => false
theorem yc1 : ∀ {cs : List AV} {c},stOK cs=true->c ∈ cs->(∃ y,c=.d y∧y.atom=true)∨(∃ j,c=.sl j)∨c=.nilS∨∃ j,c=.mq j
 | .d y :: r, c, h, hc => by
   simp only [stOK,Bool.and_eq_true] at h
   rcases List.mem_cons.1 hc with rfl | hc
   . exact .inl ⟨y,rfl,h.1⟩
   . exact yc1 h.2 hc
 | .sl j :: r, c, h, hc => by
   simp only [stOK] at h
   rcases List.mem_cons.1 hc with rfl | hc
   . exact .inr (.inl ⟨j,rfl⟩)
   . exact yc1 h hc
 | .nilS :: r, c, h, hc => by
   simp only [stOK] at h
   rcases List.mem_cons.1 hc with rfl | hc
   . exact .inr (.inr (.inl rfl))
   . exact yc1 h hc
 | .mq j :: r, c, h, hc => by
   simp only [stOK] at h
   rcases List.mem_cons.1 hc with rfl | hc
   . exact .inr (.inr (.inr ⟨j,rfl⟩))
   . exact yc1 h hc
def AV.isSl (j : Nat) (av : AV) : Prop:=av=.sl j∨∃ cs,av=.st cs∧.sl j ∈ cs
def xq0 : AV->Option (List AV)
 | .st cs => if stOK cs then some cs else none
 | .d y => some (y.cells.map .d)
 | .sl j => some [.sl j]
 | .p j o => some [.p j o]
 | .fn f cs => some [.fn f cs]
 | .nilS => some [.nilS]
 | .mq j => some [.mq j]
 | _ => none
def AV.atoms : AV->Prop
 | .d y => ∀ c ∈ y.cells,c.atom=true
 | _ => True
theorem yf1 {β S w av v cs} (h : Rel β S w av v) (hb : xq0 av=some cs) (hsl : ∀ j,av.isSl j->∃ a n c,β j=.slice a n c) :
 v.cells.toList.length=cs.length∧(∀ i,i < cs.length->Rel β S w (cs.getD i .undef) (v.cells.toList.getD i Go.undef))∧(av.atoms->∀ u ∈ v.cells.toList,u.oneCell'=true):=by
 have one : ∀ {y u},Rel β S w y u->u.cells=#[u]->u.oneCell'=true->u.cells.toList.length=[y].length ∧
  (∀ i,i < [y].length->Rel β S w ([y].getD i .undef) (u.cells.toList.getD i Go.undef))∧(y.atoms->∀ z ∈ u.cells.toList,z.oneCell'=true):=by
  intro y u hy e1 e2
  rw [e1]
  refine ⟨rfl,fun i hi => ?_,fun _ z hz => by simp at hz; rw [hz]; exact e2⟩
  have : i=0:=by simpa using hi
  subst this; simpa using hy
 cases av<;>simp only [xq0,Option.some.injEq,reduceCtorEq] at hb
 . subst hb
   cases h with
   | d hr =>
     obtain ⟨h1,h2⟩:=xe3 hr
     refine ⟨by simpa using h1,fun i hi => ?_,fun ha => yn2 hr ⟨rfl,ha⟩⟩
     simp only [List.length_map] at hi
     have:=h2 i hi
     simp only [List.getD_eq_getElem?_getD,List.getElem?_map,List.getElem?_eq_getElem hi,Option.map_some,Option.getD_some] at this ⊢
     exact .d this
 . subst hb
   rename_i j
   obtain ⟨a,n,c,e⟩:=hsl j (.inl rfl)
   cases h
   exact one (.sl j) (by rw [e]; rfl) (by rw [e]; rfl)
 . subst hb; cases h with | p hβ => exact one (.p hβ) rfl rfl
 . subst hb; cases h with | fn hl hr => exact one (.fn hl hr) rfl rfl
 . subst hb; cases h with | nilS => exact one .nilS rfl rfl
 . rename_i xs
   split at hb
   . rename_i hok
     cases hb
     cases h with
     | st hl hr =>
       rename_i vs
       refine ⟨by simpa [Value.cells] using hl,by simpa [Value.cells] using hr,fun _ u hu => ?_⟩
       have hu : u ∈ vs:=by simpa [Value.cells] using hu
       obtain ⟨i,hi,rfl⟩:=List.getElem_of_mem hu
       have h1:=hr i (by omega)
       have hix : i < cs.length:=by omega
       simp only [List.getD_eq_getElem?_getD,List.getElem?_eq_getElem hi,List.getElem?_eq_getElem hix,Option.getD_some] at h1
       rcases yc1 hok (List.getElem_mem hix) with ⟨y,hy,hat⟩ | ⟨j,hj⟩ | hj | ⟨j,hj⟩
       . rw [hy] at h1; cases h1 with | d h2 => exact xz4 h2 hat
       . obtain ⟨a,n,c,e⟩:=hsl j (.inr ⟨cs,rfl,hj ▸ List.getElem_mem hix⟩)
         rw [hj] at h1
         generalize vs[i]=v at *
         cases h1
         rw [e]; rfl
       . rw [hj] at h1
         generalize vs[i]=v at *
         cases h1; rfl
       . rw [hj] at h1
         generalize vs[i]=v at *
         cases h1; rfl
   . cases hb
 . subst hb; cases h with | mq hβ => exact one (.mq hβ) rfl rfl

theorem OK.is_slice {β S w o v F} (h : OK β S w o v F) : ∃ a n c,v=.slice a n c:=by
 have key : ∀ {e k n xs},w.ownsRow 0 e k v n xs->∃ a n c,v=.slice a n c:=by
  intro e k n xs hw
  rcases hw.2 with ⟨h1,_⟩ | ⟨g,cap,cur,h1,_⟩<;>exact ⟨_,_,_,h1⟩
 cases h with
 | box hF xs hv hw hr => exact key hw
 | arr hF xs hk0 hk hw hr => exact key hw
 | arv hF xs hv hk0 hk hw hr => exact key hw
 | mp b ms c hF hv hbb he => exact ⟨_,_,_,hv⟩
 | res hv hlt fs hr hf hd => exact ⟨_,_,_,hv⟩
 | arw hlt xs hk0 hk hw hbb hr hv => exact key hw
 | view hF b c hv => exact ⟨_,_,_,hv⟩
 | d1 hlt h => cases h with | sl1 h h0 => cases h with
   | nil _ _ hE => cases hE<;>exact ⟨_,_,_,rfl⟩
   | slice xs fs hk0 hk hw hb hf hd hr => exact key hw
 | dp hlt h => rcases h with ⟨_, _, _, h⟩ | ⟨e, k, xs, fs, _, h⟩
               . cases h<;>exact ⟨_,_,_,rfl⟩
               . exact key h.hw

theorem flat_one {cs : List D} (hc : ∀ x ∈ cs,x.isAgg=false) : flat cs=cs:=by
 induction cs with
 | nil => rfl
 | cons x r ih =>
   have hx:=xr3 (hc x (by simp))
   have:=ih fun y hy => hc y (by simp [hy])
   simp only [flat,List.flatMap_cons,hx] at this ⊢
   rw [this]; rfl

section
variable {P : Program} {Z : Nat->Prop} {β : Nat->Value} {φ : Nat->Nat->Prop} {N B : Nat} {M : Nat->Prop} {w0 : World} {st : St} {a : Act} {w : World}

theorem zr6 {j : Nat} : lk j (st.kill j).o=none:=by
 cases h : lk j (st.kill j).o with
 | none => rfl
 | some o => exact absurd rfl (xe0 h).1

theorem SimB.newF (h : SimB Z β φ N B M w0 st a w) {d : Nat} {o : AO} {hd : Value} {F : Nat->Prop} {w' : World} (hg : Gb w w' none) (hnew : ∀ g,F g->w.heap.size<=g)
 (hok : ∀ β' S',(∀ av u,av.has d=false->Rel β (free Z φ st.o) w av u->Rel β' S' w' av u)->(∀ x u,Rd (free Z φ st.o) w x u->Rd S' w' x u)->OK β' S' w' o hd F) :
 SimB Z (upd β d hd) (updF φ d F) N B M w0 ⟨xb6 d st.s,ins d o (xb4 d st.o)⟩ a w':=by
 have hk:=h.kill (β':=upd β d hd) (φ':=updF φ d F) d xf2 xf3
 have hS : ∀ g,free Z φ st.o g->free Z (updF φ d F) (st.kill d).o g:=fun g hg => ze7 xf3 hg
 refine hk.layNew zr6 hg (by rw [xd7]; exact hnew) fun S' h1 h2 => ?_
 rw [xg7,xd7]
 exact hok _ S' (fun av u hh hr => h1 av u ((hr.other xf2 hh).move fun g hg _ => ⟨hS g hg,rfl⟩)) fun x u hr => h2 x u (hr.weaken hS)
theorem SimB.new (h : SimB Z β φ N B M w0 st a w) {d : Nat} {o : AO} {hd : Value} {w' : World} (hg : Gb w w' none) (hnew : ∀ g,hd.ownBlock=some g->w.heap.size<=g)
 (hok : ∀ β' S',(∀ av u,av.has d=false->Rel β (free Z φ st.o) w av u->Rel β' S' w' av u)->(∀ x u,Rd (free Z φ st.o) w x u->Rd S' w' x u)->OK β' S' w' o hd (ownS hd)) :
 SimB Z (upd β d hd) (updF φ d (ownS hd)) N B M w0 ⟨xb6 d st.s,ins d o (xb4 d st.o)⟩ a w':=h.newF hg hnew hok

theorem grownBy_alloc (w : World) (o : Obj) : Gb w (w.alloc o) none:=⟨World.grownBy_alloc w o none,Nat.le_refl _⟩

def boxO (P : Program) (t : TypeId) (av : AV) : Option (Prop × AO) :=
 match xn1 P t with
 | none => (xq0 av).map fun cs => (True,.box t cs)
 | some (_, e) => match av with
   | .d (.agg cs) => if aggT P e then none else some (∀ x ∈ cs,x.isAgg=false,.arv t 1 cs)
   | _ => none

theorem boxO_ok {d t av c o v} (h : SimB Z β φ N B M w0 st a w) (hq : boxO P t av=some (c,o)) (hc : c) (hv : Rel β (free Z φ st.o) w av v) (hsl : ∀ j,av.isSl j->∃ a n c,β j=.slice a n c)
 (hd : av.has d=false) {β' : Nat->Value} {S' : Nat->Prop} 
 (h1 : ∀ av u,av.has d=false->Rel β (free Z φ st.o) w av u->Rel β' S' (w.alloc (.cells v.cells t)) av u) (h2 : ∀ x u,Rd (free Z φ st.o) w x u->Rd S' (w.alloc (.cells v.cells t)) x u) :
 OK β' S' (w.alloc (.cells v.cells t)) o (.slice (some ⟨w.heap.size,0,none⟩) 1 1) (ownS (.slice (some ⟨w.heap.size,0,none⟩) 1 1)):=by
 unfold boxO at hq
 have hrow : ∀ n,v.cells.toList.length=n->(w.alloc (.cells v.cells t)).ownsRow 0 t n (.slice (some ⟨w.heap.size,0,none⟩) 1 1) 1 v.cells.toList:=fun n hn => by
  have:=World.ownsRow_lit (base:=0) (e:=t) (size:=n) w v.cells 1 (Nat.zero_le _) (by decide) (by simpa using hn)
  exact this
 split at hq
 . obtain ⟨cs,hcs,he⟩:=Option.map_eq_some_iff.1 hq
   cases he
   obtain ⟨e1,e2,_⟩:=yf1 hv hcs hsl
   refine .box rfl v.cells.toList (by simp) (hrow _ e1) fun i hi => ?_
   refine h1 _ _ ?_ (e2 i hi)
   cases av<;>simp only [xq0,Option.some.injEq,reduceCtorEq] at hcs
   case st xs =>
    split at hcs
    . cases hcs; exact AV.hasL_getD (by simpa [AV.has] using hd) i
    . cases hcs
   all_goals subst hcs
   . simp only [List.getD_eq_getElem?_getD,List.getElem?_map]
     cases (D.cells _)[i]? <;> simp [AV.has]
   all_goals
    have : i=0:=by simpa using hi
    subst this
    simpa using hd
 . rename_i n e he
   split at hq
   . rename_i cs
     split at hq
     . cases hq
     . cases hq
       cases hv with
       | d hr =>
         obtain ⟨vs,rfl,hl,hr'⟩:=yt7 hr
         have hflat : flat cs=cs:=flat_one hc
         refine .arv rfl vs (by simp) (by omega) (fun x hx => by rw [xr3 (hc x hx)]; rfl) ?_ fun i hi => ?_
         . rw [hflat]; simpa [Value.cells] using hrow cs.length (by simpa [Value.cells] using hl)
         . rw [hflat] at hi ⊢; exact h2 _ _ (hr' i hi)
   . cases hq

def xe8 (P : Program) (t : TypeId) : Option D :=
 match (zj1 P t).bind cv with
 | some (.d x) => some x
 | _ => none
theorem xf6 {P : Program} {t x} (h : xe8 P t=some x) : ∃ i z,P.info? t=some i∧i.zero=some z∧∀ S w,Rd S w x z:=by
 unfold xe8 at h
 split at h
 . rename_i y hy
   cases h
   obtain ⟨z,hz,hc⟩:=Option.bind_eq_some_iff.1 hy
   obtain ⟨i,hi,hz'⟩:=Option.bind_eq_some_iff.1 hz
   refine ⟨i,z,hi,hz',fun S w => ?_⟩
   have:=zs8 (β:=fun _ => Go.undef) (S:=S) (w:=w) hc
   cases this; assumption
 . cases h
def nz : D->AV
 | .slice [] => .nilS
 | .slice (x :: r) => .d (.slice (x :: r))
 | .int k n => .d (.int k n)
 | .bool b => .d (.bool b)
 | .str s => .d (.str s)
 | .agg cs => .d (.agg cs)
 | .ptr x => .d (.ptr x)
 | .nilptr => .d .nilptr
 | .fn f a b => .d (.fn f a b)
 | .nilfn => .d .nilfn
 | .tup xs => .d (.tup xs)
 | .map q r es => .d (.map q r es)
 | .nilmap => .d .nilmap
 | .tag u es => .d (.tag u es)
 | .sl1 es => .d (.sl1 es)
theorem zx8 (x : D) : (x=.slice []∧nz x=.nilS)∨nz x=.d x:=by
 cases x<;>first | exact .inr rfl | skip
 rename_i es
 cases es
 . exact .inl ⟨rfl,rfl⟩
 . exact .inr rfl
theorem nz_has (x : D) (d : Nat) : (nz x).has d=false:=by
 rcases zx8 x with ⟨_,h⟩ | h<;>rw [h]<;>rfl
theorem nz_sl (x : D) {j} : ¬ (nz x).isSl j:=by
 rcases zx8 x with ⟨_,h⟩ | h<;>rw [h]<;>rintro (h | ⟨_,h,_⟩)<;>cases h
theorem zeroD_nz {P : Program} {t x} (h : xe8 P t=some x) : ∃ i z,P.info? t=some i∧i.zero=some z∧∀ β S w,Rel β S w (nz x) z:=by
 obtain ⟨i,z,hi,hz,hr⟩:=xf6 h
 refine ⟨i,z,hi,hz,fun β S w => ?_⟩
 rcases zx8 x with ⟨hx,e⟩ | e
 . rw [e]
   subst hx
   have h1 : (zj1 P t).bind cv=some (.d (.slice [])):=by
    unfold xe8 at h
    split at h
    . rename_i y hy; cases h; exact hy
    . cases h
   rw [show zj1 P t=some z by simp [zj1,hi,hz],Option.bind_some] at h1
   have : z=.slice none 0 0:=by
    unfold cv at h1
    split at h1
    . cases hcd : cDs _<;>rw [hcd] at h1<;>simp at h1
    . unfold cD at h1
      split at h1<;>simp at h1
      rfl
   rw [this]; exact .nilS
 . rw [e]; exact .d (hr S w)

def dsOf (st : St) : List (Nat × Operand)->Option (List (Nat × D) × St)
 | [] => some ([],st)
 | (i, x) :: r => match dOf st x with
   | some (y, st') => match dsOf st' r with
     | some (ys,st'') => some ((i,y) :: ys,st'')
     | none => none
   | none => none
theorem xx6 : ∀ {ps st ys st'},SimB Z β φ N B M w0 st a w->dsOf st ps=some (ys,st')->SimB Z β φ N B M w0 st' a w∧(∀ g,free Z φ st.o g->free Z φ st'.o g) ∧
 ys.map (·.1)=ps.map (·.1)∧∀ i,i < ys.length->Rd (free Z φ st'.o) w (ys.getD i (0,.nilptr)).2 (a.eval (ps.getD i (0,.global 0)).2)
 | [],st,ys,st',h,hq => by simp [dsOf] at hq; obtain ⟨rfl,rfl⟩:=hq; exact ⟨h,fun _ hg => hg,rfl,by simp⟩
 | (i, x) :: r, st, ys, st', h, hq => by
   simp only [dsOf] at hq
   split at hq
   . rename_i y st1 hy
     split at hq
     . rename_i zs st2 hz
       cases hq
       obtain ⟨h1,h2⟩:=yz0 h hy
       obtain ⟨h3,h4,h5,h6⟩:=xx6 h1 hz
       refine ⟨h3,fun g hg => h4 g (dOf_free hy hg),by simp [h5],fun j hj => ?_⟩
       cases j with
       | zero => simpa using h2.weaken h4
       | succ j => simpa using h6 j (by simpa using hj)
     . cases hq
   . cases hq

def ys3 (place : Nat->Option (Nat × Nat)) (ds : List D) : List (Nat × D)->Option (List D)
 | [] => some ds
 | (i, x) :: r => match place i with
   | some (off,size) => if x.cells.length=size∧off + x.cells.length<=ds.length then ys3 place (setL ds off x.cells) r else none
   | none => none

theorem xi4 (off : Nat) : ∀ (l : List Value) (k : Nat) (cs : Array Value) (i : Nat),off + k + l.length<=cs.size ->
 (((l.zipIdx k).foldl (fun cs (c : Value × Nat) => cs.setIfInBounds (off + c.2) c.1) cs).toList.getD i Go.undef =
   if off + k<=i∧i < off + k + l.length then l.getD (i - off - k) Go.undef else cs.toList.getD i Go.undef) ∧
 ((l.zipIdx k).foldl (fun cs (c : Value × Nat) => cs.setIfInBounds (off + c.2) c.1) cs).size=cs.size
 | [],k,cs,i,_ => by simp; intro h1 h2; omega
 | v :: r, k, cs, i, hl => by
   simp only [List.length_cons] at hl
   obtain ⟨h1,h2⟩:=xi4 off r (k + 1) (cs.setIfInBounds (off + k) v) i (by simp; omega)
   simp only [List.zipIdx_cons,List.foldl_cons]
   refine ⟨?_,by rw [h2]; simp⟩
   rw [h1]
   simp only [List.length_cons]
   by_cases e : i=off + k
   . subst e
     rw [if_neg (by omega),if_pos (by omega)]
     have : off + k - off - k=0:=by omega
     rw [this]
     have h3 : off + k < cs.size:=by omega
     simp [List.getD_eq_getElem?_getD,h3]
   . have h4 : (cs.setIfInBounds (off + k) v).toList.getD i Go.undef=cs.toList.getD i Go.undef:=by
      simp only [List.getD_eq_getElem?_getD,Array.getElem?_toList]
      rw [Array.getElem?_setIfInBounds_ne (Ne.symm e)]
     rw [h4]
     by_cases h5 : off + (k + 1)<=i∧i < off + (k + 1) + r.length
     . rw [if_pos h5,if_pos (by omega)]
       have : i - off - k=(i - off - (k + 1)) + 1:=by omega
       rw [this]; simp
     . rw [if_neg h5,if_neg (by omega)]

def RdL (S : Nat->Prop) (w : World) (ds : List D) (vs : List Value) : Prop:=vs.length=ds.length∧∀ i,i < ds.length->Rd S w (ds.getD i .nilptr) (vs.getD i Go.undef)

theorem ye5 {S : Nat->Prop} {place : Nat->Option (Nat × Nat)} : ∀ {ys : List (Nat × D)} {us : List (Nat × Value)} {ds cs r},ys3 place ds ys=some r ->
 ys.map (·.1)=us.map (·.1)->(∀ i,i < ys.length->Rd S w (ys.getD i (0,.nilptr)).2 (us.getD i (0,Go.undef)).2)->RdL S w ds cs.toList ->
 ∃ rs : Array Value,Instr.fill place cs us=some rs∧RdL S w r rs.toList
 | [], us, ds, cs, r, hq, he, _, hl => by
   simp [ys3] at hq; subst hq
   have : us=[]:=by simpa using he.symm
   subst this
   exact ⟨cs,rfl,hl⟩
 | (i, x) :: ys, us, ds, cs, r, hq, he, hr, hl => by
   cases us with
   | nil => simp at he
   | cons u us =>
     obtain ⟨i',v⟩:=u
     simp only [List.map_cons,List.cons.injEq] at he
     obtain ⟨rfl,he⟩:=he
     simp only [ys3] at hq
     split at hq
     . rename_i off size hp
       split at hq
       . rename_i hb
         have h0 : Rd S w x v:=by simpa using hr 0 (by simp)
         obtain ⟨h1,h2⟩:=xe3 h0
         have hsz : v.cells.size=x.cells.length:=by simpa using h1
         have hcs : cs.size=ds.length:=by simpa using hl.1
         obtain ⟨rs,h3,h4⟩:=ye5 (S:=S) (us:=us) (cs:=(v.cells.zipIdx.foldl (fun cs (c : Value × Nat) => cs.setIfInBounds (off + c.2) c.1) cs)) hq he
          (fun j hj => by simpa using hr (j + 1) (by simpa using hj)) (by
           rw [← Array.foldl_toList,Array.toList_zipIdx]
           obtain ⟨_,e2⟩:=xi4 off v.cells.toList 0 cs 0 (by simp; omega)
           refine ⟨by rw [Array.length_toList,e2,xd5 hb.2,hcs],fun j hj => ?_⟩
           rw [xd5 hb.2] at hj
           rw [(xi4 off v.cells.toList 0 cs j (by simp; omega)).1,xe2 hb.2]
           simp only [Nat.add_zero,Nat.sub_zero,Array.length_toList,hsz]
           split
           . exact h2 _ (by omega)
           . exact hl.2 j hj)
         refine ⟨rs,?_,h4⟩
         have e1 : ¬ (v.cells.size ≠ size):=by rw [hsz]; exact fun h => h hb.1
         have e2 : ¬ (off + v.cells.size > cs.size):=by omega
         simp only [Instr.fill,hp]
         rw [if_neg (by simp only [Bool.or_eq_true,decide_eq_true_eq]; rintro (h | h); exact e1 h; exact e2 h)]
         exact h3
       . cases hq
     . cases hq
end
end Abs

namespace Abs
open Go Go.RowKit

def killL : List Nat->St->St
 | [],st => st
 | k :: r,st => killL r (st.kill k)
theorem yx8 {k : Nat} : ∀ {ks : List Nat} {st : St} {o},lk k (killL ks st).o=some o->k ∉ ks∧∃ o',lk k st.o=some o'
 | [],st,o,h => ⟨by simp,o,h⟩
 | j :: r, st, o, h => by
   obtain ⟨h1,o',h2⟩:=yx8 (ks:=r) (st:=st.kill j) h
   obtain ⟨h3,o2,h4,_⟩:=xe0 h2
   exact ⟨by simp; exact ⟨h3,h1⟩,o2,h4⟩
theorem yy1 {i : Nat} : ∀ {ks : List Nat} {st : St} {v},lk i (killL ks st).s=some v->v=.undef∨(lk i st.s=some v∧∀ k ∈ ks,v.has k=false)
 | [],st,v,h => .inr ⟨h,by simp⟩
 | k :: r, st, v, h => by
   rcases yy1 (ks:=r) (st:=st.kill k) h with h1 | ⟨h1,h2⟩
   . exact .inl h1
   . obtain ⟨h3,h4⟩:=xj4 h1
     rcases h4 with h4 | h4
     . exact .inl h4
     . exact .inr ⟨h4,fun j hj => by
        rcases List.mem_cons.1 hj with rfl | hj
        . exact h3
        . exact h2 j hj⟩
theorem xs4 {k : Nat} : ∀ {ks : List Nat} {st : St} {o : AO},lk k (killL ks st).o=some o->k ∉ ks∧∃ o',lk k st.o=some o' ∧
 ∀ (β β' : Nat->Value) S w v F,(∀ i,i ∉ ks->β' i=β i)->OK β S w o' v F->OK β' S w o v F
 | [],st,o,h => ⟨by simp,o,h,fun β β' S w v F he hO => by
  have : β'=β:=funext fun i => he i (by simp)
  rw [this]; exact hO⟩
 | j :: r, st, o, h => by
   obtain ⟨h1,o',h2,h3⟩:=xs4 (ks:=r) (st:=st.kill j) h
   obtain ⟨h4,o2,h5,rfl⟩:=xe0 h2
   refine ⟨by simp; exact ⟨h4,h1⟩,o2,h5,fun β β' S w v F he hO => ?_⟩
   refine h3 (upd β j (β' j)) β' S w v F (fun i hi => ?_) (hO.wipe xf2)
   by_cases e : i=j
   . subst e; rw [xg7]
   . rw [xf2 i e]; exact he i (by simp; exact ⟨e,hi⟩)

theorem xt2 {k : Nat} : ∀ {ks : List Nat} {st : St} {o o' : AO},lk k (killL ks st).o=some o->lk k st.o=some o'->o'.isRes=o.isRes
 | [], st, o, o', h, h' => by
   have : some o=some o':=h.symm.trans h'
   cases this; rfl
 | j :: r, st, o, o', h, h' => by
   obtain ⟨_,o1,h1⟩:=yx8 (ks:=r) h
   rw [← xt2 (ks:=r) h h1]
   obtain ⟨_,o2,h2,rfl⟩:=xe0 h1
   have : some o2=some o':=h2.symm.trans h'
   cases this; exact xk7.symm
def setC (es : List D) (i fo : Nat) (ds : List D) : List D:=es.set i (bif (el es i).isAgg then .agg (setL (el es i).cells fo ds) else ds.getD 0 .nilptr)

theorem ye3 {es : List D} {k : Nat} (hk : ∀ e ∈ es,e.cells.length=k) {i y} (hi : i < es.length) (hy : y.cells.length=k) : flat (es.set i y)=setL (flat es) (i * k) y.cells:=by
 induction es generalizing i with
 | nil => simp at hi
 | cons x r ih =>
   have hx:=hk x (by simp)
   cases i with
   | zero =>
     simp only [flat,List.set_cons_zero,List.flatMap_cons,setL,Nat.zero_mul,List.take_zero,List.nil_append,Nat.zero_add,hy]
     rw [List.drop_append_of_le_length (by omega),List.drop_of_length_le (by omega),List.nil_append]
   | succ i =>
     have:=ih (fun e he => hk e (by simp [he])) (i:=i) (by simpa using hi)
     simp only [flat,List.set_cons_succ,List.flatMap_cons,setL] at this ⊢
     rw [this,Nat.add_mul,Nat.one_mul]
     rw [List.take_append,List.drop_append,List.drop_of_length_le (l:=x.cells) (by omega),List.take_of_length_le (l:=x.cells) (by omega),List.nil_append,List.append_assoc,List.append_assoc,List.append_assoc]
     congr 3
     . omega
     . congr 1; omega

theorem yi9 {x : D} (h : x.isAgg=false) : x.cells=[x]:=xr3 h
theorem yq0 {es : List D} {k i fo : Nat} {ds : List D} (hk : ∀ x ∈ es,x.cells.length=k) (hi : i < es.length) (hfo : fo + ds.length<=k) (h0 : 0 < ds.length) (hna : ∀ d ∈ ds,d.isAgg=false) :
 flat (setC es i fo ds)=setL (flat es) (i * k + fo) ds∧(∀ x ∈ setC es i fo ds,x.cells.length=k):=by
 have hel : (el es i).cells.length=k:=hk _ (xx5 hi)
 cases ha : (el es i).isAgg with
 | true =>
   have hnew : (D.agg (setL (el es i).cells fo ds)).cells.length=k:=by show (setL (el es i).cells fo ds).length=k; rw [xd5 (by omega),hel]
   have hks : ∀ x ∈ es.set i (.agg (setL (el es i).cells fo ds)),x.cells.length=k:=fun x hx => by
    rcases List.mem_or_eq_of_mem_set hx with hx | rfl
    . exact hk x hx
    . exact hnew
   unfold setC
   rw [ha,cond_true]
   refine ⟨?_,hks⟩
   have fl:=xa9 hk
   have hle : i * k + k<=es.length * k:=by
    have : (i + 1) * k<=es.length * k:=Nat.mul_le_mul_right k (by omega)
    rwa [Nat.add_mul,Nat.one_mul] at this
   have fls:=xa9 hks
   rw [List.length_set] at fls
   apply List.ext_getElem
   . rw [xd5 (by omega),fl,fls]
   . intro ii h1 h2
     have e1 : ∀ (l : List D) (h : ii < l.length),l[ii]=l.getD ii .nilptr:=fun l h => by simp [List.getD_eq_getElem?_getD,h]
     rw [e1,e1,xe2 (by omega)]
     by_cases g1 : i * k<=ii∧ii < i * k + k
     . have e2 : ii=i * k + (ii - i * k):=by omega
       have e3 : (flat (es.set i (.agg (setL (el es i).cells fo ds)))).getD ii .nilptr=(setL (el es i).cells fo ds).getD (ii - i * k) .nilptr:=by
        conv => lhs; rw [e2]
        rw [xe7 hks (by simpa using hi) (by omega)]
        simp [el,List.getD_eq_getElem?_getD,hi,D.cells]
       have e4 : (flat es).getD ii .nilptr=(el es i).cells.getD (ii - i * k) .nilptr:=by
        conv => lhs; rw [e2]
        rw [xe7 hk hi (by omega)]
       rw [e3,xe2 (by omega),e4]
       by_cases g2 : i * k + fo<=ii∧ii < i * k + fo + ds.length
       . rw [if_pos g2,if_pos (by omega)]; congr 1; omega
       . rw [if_neg g2,if_neg (by omega)]
     . rw [if_neg (by omega)]
       have hlt : ii < es.length * k:=by omega
       have hk0 : 0 < k:=by omega
       have hdm : ii / k < es.length∧ii % k < k∧ii / k * k + ii % k=ii:=⟨(Nat.div_lt_iff_lt_mul hk0).2 hlt,Nat.mod_lt _ hk0,by rw [Nat.mul_comm]; exact Nat.div_add_mod _ _⟩
       have hne : ii / k ≠ i:=by
        intro e
        rw [e] at hdm
        omega
       obtain ⟨d1,d2,d3⟩:=hdm
       rw [← d3,xe7 hks (by simpa using d1) d2,xe7 hk d1 d2]
       congr 2
       simp [el,List.getD_eq_getElem?_getD,List.getElem?_set,Ne.symm hne]
 | false =>
   have hc:=yi9 ha
   have hk1 : k=1:=by rw [hc] at hel; simpa using hel.symm
   subst hk1
   obtain ⟨d,rfl⟩ : ∃ d,ds=[d]:=List.length_eq_one_iff.1 (by omega)
   have hfo0 : fo=0:=by simp at hfo; omega
   subst hfo0
   have hd:=yi9 (hna d (by simp))
   unfold setC
   rw [ha,cond_false]
   simp only [List.getD_cons_zero]
   have h1:=ye3 (y:=d) hk hi (by rw [hd]; rfl)
   rw [hd] at h1
   exact ⟨by simpa using h1,fun x hx => by
    rcases List.mem_or_eq_of_mem_set hx with hx | rfl
    . exact hk x hx
    . rw [hd]; rfl⟩

theorem ownBlock_uniq {v : Value} {a b : Nat} (h : v.ownBlock=some a) (h' : v.ownBlock=some b) : a=b:=by rw [h] at h'; cases h'; rfl

theorem DpR.put {β : Nat->Value} {w w' : World} {e k es v F xs fs} (h : DpR β w e k es none v F xs fs) {i fo b : Nat} {ds : List D} {us : List Value} {gs : Nat->Nat->Prop} {F' : Nat->Prop}
 (hi : i < es.length) (hfo : fo + ds.length<=k) (h0 : 0 < ds.length) (hus : us.length=ds.length) (hna : ∀ d ∈ ds,d.isAgg=false) (hv : v.ownBlock=some b) (hw' : w'.ownsRow 0 e k v es.length (setL xs (i * k + fo) us))
 (hblk : ∀ g,g < w.heap.size->g ≠ b->w'.heap[g]? = w.heap[g]?) (hgs : ∀ c,c < ds.length->Dp w (ds.getD c .nilptr) (us.getD c Go.undef) (gs c)) (hgd : ∀ c c' g,gs c g->gs c' g->c=c') (hgF : ∀ c g,gs c g->¬ F g)
 (hF' : ∀ g,F g->F' g) (hF'' : ∀ c g,gs c g->F' g) :
 DpR β w' e k (setC es i fo ds) none v F' (setL xs (i * k + fo) us) (fun c g => if i * k + fo<=c∧c < i * k + fo + ds.length then gs (c - (i * k + fo)) g else fs c g):=by
 obtain ⟨f1,f2⟩:=yq0 h.hk hi hfo h0 hna
 have fl:=xa9 h.hk
 have hxl:=h.hw.1
 have hle : i * k + k<=es.length * k:=by
  have : (i + 1) * k<=es.length * k:=Nat.mul_le_mul_right k (by omega)
  rwa [Nat.add_mul,Nat.one_mul] at this
 have hFb : F b:=(h.hb b hv).1
 refine ⟨h.hk0,f2,by simpa [setC] using hw',fun b' hb' => ⟨hF' _ (h.hb b' hb').1,fun c => ?_⟩,fun c g => ?_,fun c c' g => ?_,fun c hc _ => ?_,fun _ _ h => by cases h⟩
 . obtain rfl:=ownBlock_uniq hv hb'
   split
   . exact fun hg => hgF _ _ hg hFb
   . exact (h.hb b hv).2 c
 . split
   . exact fun hg => hF'' _ _ hg
   . exact fun hg => hF' _ (h.hf _ _ hg)
 . split<;>split
   . intro h1 h2; have:=hgd _ _ _ h1 h2; omega
   . intro h1 h2; exact absurd (h.hf _ _ h2) (hgF _ _ h1)
   . intro h1 h2; exact absurd (h.hf _ _ h1) (hgF _ _ h2)
   . exact h.hd c c' g
 . rw [f1,xd5 (by omega)] at hc
   rw [f1,xe2 (by omega),xe2 (by omega),hus]
   split
   . rename_i hin
     refine (hgs _ (by omega)).move fun g hg hlt => hblk g hlt ?_
     rintro rfl
     exact hgF _ _ hg hFb
   . rename_i hin
     refine (h.hr c hc (by simp)).move fun g hg hlt => hblk g hlt ?_
     rintro rfl
     exact (h.hb g hv).2 c hg

theorem DpR.mono {β : Nat->Value} {w : World} {e k es ho v F F' xs fs} (h : DpR β w e k es ho v F xs fs) (hF : ∀ g,F g->F' g) : DpR β w e k es ho v F' xs fs :=
 { h with hb:=fun b hb => ⟨hF _ (h.hb b hb).1,(h.hb b hb).2⟩,hf:=fun i g hg => hF _ (h.hf i g hg) }
theorem DpR.app {β β' : Nat->Value} {w w' : World} {e k es v F xs fs} (h : DpR β w e k es none v F xs fs) {ys : List D} {news : List Value} {v' : Value} {gs : Nat->Nat->Prop} {F' : Nat->Prop}
 (hky : ∀ y ∈ ys,y.cells.length=k) (hnl : news.length=ys.length * k) (hw' : w'.ownsRow 0 e k v' (es.length + ys.length) (xs++news)) (hblk : ∀ g,g < w.heap.size->v.ownBlock ≠ some g->w'.heap[g]? = w.heap[g]?)
 (hv' : ∀ g,v'.ownBlock=some g->w.heap.size<=g∨v.ownBlock=some g) (hlt : ∀ g,F g->g < w.heap.size) (hlt2 : ∀ c g,gs c g->g < w.heap.size)
 (hgs : ∀ c,c < (flat ys).length->Dp w ((flat ys).getD c .nilptr) (news.getD c Go.undef) (gs c)) (hgd : ∀ c c' g,gs c g->gs c' g->c=c') (hgF : ∀ c g,gs c g->¬ F g)
 (hF1 : ∀ g,v'.ownBlock=some g->F' g) (hF2 : ∀ g,F g->F' g) (hF3 : ∀ c g,gs c g->F' g) :
 DpR β' w' e k (es++ys) none v' F' (xs++news) (fun c g => if c < es.length * k then fs c g else gs (c - es.length * k) g):=by
 have fl:=xa9 h.hk
 have fly:=xa9 hky
 have hxl:=h.hw.1
 have hfa : flat (es++ys)=flat es++flat ys:=by simp [flat]
 refine ⟨h.hk0,fun x hx => (List.mem_append.1 hx).elim (h.hk x) (hky x),by simpa using hw',fun b hb => ⟨hF1 b hb,fun c => ?_⟩,fun c g => ?_,fun c c' g => ?_,fun c hc _ => ?_,fun _ _ h => by cases h⟩
 . rcases hv' b hb with h1 | h1
   . split
     . intro hg; have:=hlt _ (h.hf _ _ hg); omega
     . intro hg; have:=hlt2 _ _ hg; omega
   . split
     . exact (h.hb b h1).2 c
     . exact fun hg => hgF _ _ hg (h.hb b h1).1
 . split
   . exact fun hg => hF2 _ (h.hf _ _ hg)
   . exact fun hg => hF3 _ _ hg
 . split<;>split
   . exact h.hd c c' g
   . intro h1 h2; exact absurd (h.hf _ _ h1) (hgF _ _ h2)
   . intro h1 h2; exact absurd (h.hf _ _ h2) (hgF _ _ h1)
   . intro h1 h2; have:=hgd _ _ _ h1 h2; omega
 . rw [hfa] at hc ⊢
   simp only [List.length_append] at hc
   have e1 : (flat es++flat ys).getD c .nilptr=if c < es.length * k then (flat es).getD c .nilptr else (flat ys).getD (c - es.length * k) .nilptr:=by
    simp only [List.getD_eq_getElem?_getD,List.getElem?_append,fl]; split<;>rfl
   have e2 : (xs++news).getD c Go.undef=if c < es.length * k then xs.getD c Go.undef else news.getD (c - es.length * k) Go.undef:=by
    simp only [List.getD_eq_getElem?_getD,List.getElem?_append,hxl]; split<;>rfl
   rw [e1,e2]
   split
   . exact (h.hr c (by omega) (by simp)).move fun g hg hlt' => hblk g hlt' fun hb => (h.hb g hb).2 c hg
   . exact (hgs _ (by omega)).move fun g hg hlt' => hblk g hlt' fun hb => hgF _ _ hg (h.hb g hb).1

theorem Dp.one {w x v F} (h : Dp w x v F) : v.oneCell'=true:=by
 induction h with
 | int => rfl
 | bool => rfl
 | str => rfl
 | nil _ _ hE => cases hE<;>rfl
 | sl1 _ _ ih => exact ih
 | slice _ _ _ _ hw => rcases hw.2 with ⟨h2,_⟩ | ⟨_,_,_,h2,_⟩<;>rw [h2]<;>rfl

def zf3 : AO->Option (Prop × List D)
 | .dp _ es none => some (True,es)
 | .arr _ _ es => some (∀ x ∈ flat es,x.bare=true,es)
 | _ => none
def hasN (i : Nat) : List Nat->Bool
 | [] => false
 | k :: r => i == k || hasN i r
theorem zm6 {i : Nat} : ∀ {l : List Nat},hasN i l=true↔i ∈ l
 | [] => by simp [hasN]
 | k :: r => by simp [hasN,zm6 (l:=r)]
def eat (o : List (Nat × AO)) (j : Nat) : List AV->Option (Prop × List D × List Nat)
 | [] => some (True,[],[])
 | .d y :: r => match eat o j r with
   | some (c,ds,ks) => some (y.bare=true∧c,y :: ds,ks)
   | none => none
 | .nilS :: r => match eat o j r with
   | some (c,ds,ks) => some (c,.slice [] :: ds,ks)
   | none => none
 | .e0 :: r => match eat o j r with
   | some (c,ds,ks) => some (c,.sl1 [] :: ds,ks)
   | none => none
 | .sl i :: r => if i = j then none else match (lk i o).bind zf3, eat o j r with
   | some (c1,ys),some (c,ds,ks) => if hasN i ks then none else some (c1∧c,eatD o i ys :: ds,i :: ks)
   | _,_ => none
 | _ => none
def yh6 : AV->Option (List AV)
 | .d y => some (y.cells.map .d)
 | .sl i => some [.sl i]
 | .mq i => some [.mq i]
 | .st cs => some cs
 | .nilS => some [.nilS]
 | .e0 => some [.e0]
 | _ => none
theorem bare_nonagg {x : D} (h : x.bare=true) : x.isAgg=false:=by cases x<;>simp_all [D.bare,D.isAgg]

theorem bare_one {S w x v} (hb : x.bare=true) (h : Rd S w x v) : v.oneCell'=true:=by
 refine xz4 h ?_
 cases x<;>simp_all [D.bare,D.atom]
section
variable {P : Program} {Z : Nat->Prop} {β : Nat->Value} {φ : Nat->Nat->Prop} {N B : Nat} {M : Nat->Prop} {w0 : World} {st : St} {a : Act} {w : World}

theorem yq3 {o : AO} {c ys} (h : zf3 o=some (c,ys)) : o.isRes=false:=by
 cases o<;>first | rfl | (simp [zf3] at h)
theorem yh2 {S o c ys v F} (h : OK β S w o v F) (hq : zf3 o=some (c,ys)) (hc : c) : Dp w (.slice ys) v F:=by
 cases o with
 | arr e k es =>
   cases hq
   cases h with
   | arr hF xs hk0 hk hw hr =>
     subst hF
     exact .slice xs (fun _ _ => False) hk0 hk hw (fun b hb => ⟨hb,fun _ h => h⟩) (fun _ _ h => h.elim) (fun _ _ _ h => h.elim) fun i hi => zi3 (hc _ (by
      simp only [List.getD_eq_getElem?_getD,List.getElem?_eq_getElem hi,Option.getD_some]; exact List.getElem_mem hi)) (hr i hi)
 | dp t es ho => cases ho with
   | none => cases hq; cases h with | dp hlt h => exact h.dp
   | some p => cases hq
 | _ => cases hq

theorem eatD_agg {o i ys} : (eatD o i ys).isAgg=false:=by
 unfold eatD
 split
 . rfl
 . cases isE0 (lk i o)<;>rfl
theorem eatD_spec {S o i ob c ys v F} (hi : lk i o=some ob) (h : OK β S w ob v F) (hq : zf3 ob=some (c,ys)) (hc : c) : Dp w (eatD o i ys) v F:=by
 have hd:=yh2 h hq hc
 unfold eatD
 split
 . exact hd
 . rw [hi]
   cases he : isE0 (some ob) with
   | false => exact hd
   | true =>
     unfold isE0 at he
     split at he
     . rename_i e heq
       cases heq
       cases hq
       cases h with
       | arr hF xs hk0 hk hw hr =>
         have hx : xs=[]:=List.eq_nil_of_length_eq_zero (by simpa using hw.1)
         subst hx
         exact .sl1 hd fun _ => .inr ⟨_,hw,fun b hb => by rw [hF]; exact hb⟩
     . cases he
theorem xz2 (h : SimB Z β φ N B M w0 st a w) {j : Nat} : ∀ {cs : List AV} {us : List Value} {c ds ks},eat st.o j cs=some (c,ds,ks)->c->us.length=cs.length->(∀ i,i < cs.length->Rel β (free Z φ st.o) w (cs.getD i .undef) (us.getD i Go.undef)) ->
 ds.length=cs.length∧(∀ d ∈ ds,d.isAgg=false)∧(∀ u ∈ us,u.oneCell'=true)∧j ∉ ks∧∃ gs : Nat->Nat->Prop,(∀ i,i < ds.length->Dp w (ds.getD i .nilptr) (us.getD i Go.undef) (gs i)) ∧
  (∀ i g,gs i g->∃ k ∈ ks,∃ x,lk k st.o=some x∧x.isRes=false∧φ k g)∧∀ i i' g,gs i g->gs i' g->i=i'
 | [], us, c, ds, ks, hq, _, hl, _ => by
   cases hq
   have : us=[]:=List.eq_nil_of_length_eq_zero hl
   subst this
   exact ⟨rfl,by simp,by simp,by simp,fun _ _ => False,by simp,by simp,by simp⟩
 | .d y :: r, us, c, ds, ks, hq, hc, hl, hr => by
   simp only [eat] at hq
   split at hq
   . rename_i c' ds' ks' he
     cases hq
     cases us with
     | nil => simp at hl
     | cons u us =>
       obtain ⟨h1,h2,h3,h4,gs,h5,h6,h7⟩:=xz2 h he hc.2 (us:=us) (by simpa using hl) fun i hi => by simpa using hr (i + 1) (by simpa using hi)
       have hr0 : Rel β (free Z φ st.o) w (.d y) u:=by simpa using hr 0 (by simp)
       cases hr0 with
       | d hr0 =>
         refine ⟨by simp [h1],fun d hd => ?_,fun x hx => ?_,h4,fun i g => match i with | 0 => False | i + 1 => gs i g,fun i hi => ?_,fun i g hg => ?_,fun i i' g hg hg' => ?_⟩
         . rcases List.mem_cons.1 hd with rfl | hd
           . exact bare_nonagg hc.1
           . exact h2 d hd
         . rcases List.mem_cons.1 hx with rfl | hx
           . exact bare_one hc.1 hr0
           . exact h3 x hx
         . cases i with
           | zero => exact zi3 hc.1 (by simpa using hr0)
           | succ i => exact h5 i (by simpa using hi)
         . cases i with
           | zero => exact hg.elim
           | succ i => exact h6 i g hg
         . cases i<;>cases i'
           . rfl
           . exact hg.elim
           . exact hg'.elim
           . rw [h7 _ _ g hg hg']
   . cases hq
 | .nilS :: r, us, c, ds, ks, hq, hc, hl, hr => by
   simp only [eat] at hq
   split at hq
   . rename_i c' ds' ks' he
     cases hq
     cases us with
     | nil => simp at hl
     | cons u us =>
       obtain ⟨h1,h2,h3,h4,gs,h5,h6,h7⟩:=xz2 h he hc (us:=us) (by simpa using hl) fun i hi => by simpa using hr (i + 1) (by simpa using hi)
       have hr0 : Rel β (free Z φ st.o) w .nilS u:=by simpa using hr 0 (by simp)
       cases hr0
       refine ⟨by simp [h1],fun d hd => ?_,fun x hx => ?_,h4,fun i g => match i with | 0 => False | i + 1 => gs i g,fun i hi => ?_,fun i g hg => ?_,fun i i' g hg hg' => ?_⟩
       . rcases List.mem_cons.1 hd with rfl | hd
         . rfl
         . exact h2 d hd
       . rcases List.mem_cons.1 hx with rfl | hx
         . rfl
         . exact h3 x hx
       . cases i with
         | zero => exact .nil _ _ (.nil _)
         | succ i => exact h5 i (by simpa using hi)
       . cases i with
         | zero => exact hg.elim
         | succ i => exact h6 i g hg
       . cases i<;>cases i'
         . rfl
         . exact hg.elim
         . exact hg'.elim
         . rw [h7 _ _ g hg hg']
   . cases hq
 | .e0 :: r, us, c, ds, ks, hq, hc, hl, hr => by
   simp only [eat] at hq
   split at hq
   . rename_i c' ds' ks' he
     cases hq
     cases us with
     | nil => simp at hl
     | cons u us =>
       obtain ⟨h1,h2,h3,h4,gs,h5,h6,h7⟩:=xz2 h he hc (us:=us) (by simpa using hl) fun i hi => by simpa using hr (i + 1) (by simpa using hi)
       have hr0 : Rel β (free Z φ st.o) w .e0 u:=by simpa using hr 0 (by simp)
       obtain ⟨a0,rfl⟩ : ∃ a0,u=.slice a0 0 0:=by cases hr0<;>exact ⟨_,rfl⟩
       refine ⟨by simp [h1],fun d hd => ?_,fun x hx => ?_,h4,fun i g => match i with | 0 => False | i + 1 => gs i g,fun i hi => ?_,fun i g hg => ?_,fun i i' g hg hg' => ?_⟩
       . rcases List.mem_cons.1 hd with rfl | hd
         . rfl
         . exact h2 d hd
       . rcases List.mem_cons.1 hx with rfl | hx
         . rfl
         . exact h3 x hx
       . cases i with
         | zero => exact .sl1 (.nil _ _ (.nil _)) fun _ => .inl ⟨_,rfl⟩
         | succ i => exact h5 i (by simpa using hi)
       . cases i with
         | zero => exact hg.elim
         | succ i => exact h6 i g hg
       . cases i<;>cases i'
         . rfl
         . exact hg.elim
         . exact hg'.elim
         . rw [h7 _ _ g hg hg']
   . cases hq
 | .sl i0 :: r, us, c, ds, ks, hq, hc, hl, hr => by
   simp only [eat] at hq
   split at hq
   . cases hq
   . rename_i hij
     split at hq
     . rename_i c1 ys c' ds' ks' ho he
       split at hq
       . cases hq
       . rename_i hnk
         cases hq
         obtain ⟨ob,hob,ho⟩:=Option.bind_eq_some_iff.1 ho
         cases us with
         | nil => simp at hl
         | cons u us =>
           obtain ⟨h1,h2,h3,h4,gs,h5,h6,h7⟩:=xz2 h he hc.2 (us:=us) (by simpa using hl) fun i hi => by simpa using hr (i + 1) (by simpa using hi)
           have hr0 : Rel β (free Z φ st.o) w (.sl i0) u:=by simpa using hr 0 (by simp)
           have hOK:=h.objs i0 ob hob
           have hd0:=eatD_spec hob hOK ho hc.1
           obtain ⟨a0,n0,c0,hsl⟩:=hOK.is_slice
           have hu : u=β i0:=by cases hr0; rfl
           subst hu
           have hnk' : i0 ∉ ks':=fun h => hnk (zm6.2 h)
           have hex : ∀ i g,gs i g->¬ φ i0 g:=fun i g hg hg' => by
            obtain ⟨k,hk,x,hx,_,hg2⟩:=h6 i g hg
            exact hnk' ((h.disj i0 k ob x g hob hx hg' hg2) ▸ hk)
           refine ⟨by simp [h1],fun d hd => ?_,fun x hx => ?_,by simp only [List.mem_cons,not_or]; exact ⟨fun e => hij e.symm,h4⟩,fun i g => match i with | 0 => φ i0 g | i + 1 => gs i g,fun i hi => ?_,fun i g hg => ?_,fun i i' g hg hg' => ?_⟩
           . rcases List.mem_cons.1 hd with rfl | hd
             . exact eatD_agg
             . exact h2 d hd
           . rcases List.mem_cons.1 hx with rfl | hx
             . rw [hsl]; rfl
             . exact h3 x hx
           . cases i with
             | zero => exact hd0
             | succ i => exact h5 i (by simpa using hi)
           . cases i with
             | zero => exact ⟨i0,by simp,ob,hob,yq3 ho,hg⟩
             | succ i =>
               obtain ⟨k,hk,x,hx,hxr,hg2⟩:=h6 i g hg
               exact ⟨k,by simp [hk],x,hx,hxr,hg2⟩
           . cases i<;>cases i'
             . rfl
             . exact absurd hg (hex _ _ hg')
             . exact absurd hg' (hex _ _ hg)
             . rw [h7 _ _ g hg hg']
     . cases hq
 | .undef :: r,us,c,ds,ks,hq,_,_,_ => by simp [eat] at hq
 | .p _ _ :: r,us,c,ds,ks,hq,_,_,_ => by simp [eat] at hq
 | .pe _ _ _ _ :: r,us,c,ds,ks,hq,_,_,_ => by simp [eat] at hq
 | .mq _ :: r,us,c,ds,ks,hq,_,_,_ => by simp [eat] at hq
 | .sf _ _ _ :: r,us,c,ds,ks,hq,_,_,_ => by simp [eat] at hq
 | .vw _ _ _ _ :: r,us,c,ds,ks,hq,_,_,_ => by simp [eat] at hq
 | .pv _ _ _ _ _ :: r,us,c,ds,ks,hq,_,_,_ => by simp [eat] at hq
 | .tup _ :: r,us,c,ds,ks,hq,_,_,_ => by simp [eat] at hq
 | .fn _ _ :: r,us,c,ds,ks,hq,_,_,_ => by simp [eat] at hq
 | .hdr _ _ :: r,us,c,ds,ks,hq,_,_,_ => by simp [eat] at hq
 | .st _ :: r,us,c,ds,ks,hq,_,_,_ => by simp [eat] at hq

theorem xx9 {S av v cs} (hv : Rel β S w av v) (hq : yh6 av=some cs) (hsl : ∀ j,av=.sl j->∃ a n c,β j=.slice a n c) :
 v.cells.toList.length=cs.length∧∀ i,i < cs.length->Rel β S w (cs.getD i .undef) (v.cells.toList.getD i Go.undef):=by
 cases av<;>simp only [yh6,Option.some.injEq,reduceCtorEq] at hq
 . subst hq
   cases hv with
   | d hr =>
     obtain ⟨h1,h2⟩:=xe3 hr
     refine ⟨by simpa using h1,fun i hi => ?_⟩
     simp only [List.length_map] at hi
     have:=h2 i hi
     simp only [List.getD_eq_getElem?_getD,List.getElem?_map,List.getElem?_eq_getElem hi,Option.map_some,Option.getD_some] at this ⊢
     exact .d this
 . subst hq
   rename_i j
   obtain ⟨a,n,c,e⟩:=hsl j rfl
   have hu : v=β j:=by cases hv; rfl
   subst hu
   refine ⟨by rw [e]; rfl,fun i hi => ?_⟩
   have : i=0:=by simpa using hi
   subst this
   rw [e]; simp only [Value.cells]
   simpa [e] using hv
 . subst hq
   obtain ⟨a0,rfl⟩ : ∃ a0,v=.slice a0 0 0:=by cases hv<;>exact ⟨_,rfl⟩
   refine ⟨rfl,fun i hi => ?_⟩
   have : i=0:=by simpa using hi
   subst this
   cases a0 with
   | none => exact .e0n
   | some a0 => exact .e0s a0
 . subst hq
   cases hv
   refine ⟨rfl,fun i hi => ?_⟩
   have : i=0:=by simpa using hi
   subst this
   exact .nilS
 . subst hq
   cases hv with
   | st hl hr => exact ⟨by simpa [Value.cells] using hl,by simpa [Value.cells] using hr⟩
 . subst hq
   cases hv with
   | mq h =>
     refine ⟨rfl,fun i hi => ?_⟩
     have : i=0:=by simpa using hi
     subst this
     exact .mq h

def xp5 (st : St) (j : Nat) : Option (Option (TypeId × Nat) × List D × St) :=
 match lk j st.o with
 | some (.dp t es none) => some (t,es,st)
 | some (.dp t es (some (c, some d))) => if d = j then none else match lk d st.o with
   | some (.dp _ ys none) => some (t,setC es c.1 c.2 [.slice ys],⟨xb6 d st.s,ins j (.dp t (setC es c.1 c.2 [.slice ys]) none) (xb4 d st.o)⟩)
   | _ => none
 | _ => none

theorem xv1 (h : SimB Z β φ N B M w0 st a w) {j t es st'} (hq : xp5 st j=some (t,es,st')) : ∃ φ',SimB Z β φ' N B M w0 st' a w∧lk j st'.o=some (.dp t es none):=by
 unfold xp5 at hq
 split at hq
 . rename_i t' es' hj
   cases hq
   exact ⟨φ,h,hj⟩
 . rename_i t' es' c d hj
   split at hq
   . cases hq
   . rename_i hdj
     split at hq
     . rename_i t2 ys hd
       cases hq
       have hOj:=h.objs j _ hj
       have hOd:=h.objs d _ hd
       refine ⟨updF φ j (fun g => φ j g∨φ d g),?_,by simp [xe4]⟩
       have hdis : ∀ g,φ j g->φ d g->False:=fun g h1 h2 => hdj (h.disj d j _ _ g hd hj h2 h1)
       refine h.regroup (fun i => i=j∨i=d) (fun i => i=j) rfl rfl rfl (Nat.le_refl _) (Nat.le_refl _) (fun _ _ _ => rfl) (fun i av hi => ?_) (fun i x hi => ?_) (fun i i' g hi hi' _ _ => hi.trans hi'.symm)
       . obtain ⟨_,h2⟩:=xj4 hi
         exact h2.imp id fun h2 => ⟨h2,fun _ hr => hr⟩
       . rw [xe4] at hi
         split at hi
         . rename_i e
           subst e; cases hi
           refine .inr ⟨rfl,fun g hg => .inr ?_,fun S' _ => ?_⟩
           . rw [xd7] at hg
             exact hg.elim (fun hg => ⟨i,_,.inl rfl,hj,rfl,hg⟩) fun hg => ⟨d,_,.inr rfl,hd,rfl,hg⟩
           . rw [xd7]
             refine .dp (fun g hg => hg.elim (fun hg => hOj.block_lt hg) fun hg => hOd.block_lt hg) ?_
             cases hOj with
             | dp hlt hD =>
               rcases hD with ⟨_,h2,_⟩ | ⟨e,k,xs,fs,ht,hR⟩
               . cases h2
               . obtain ⟨hc1,hc2,hβ,hfc⟩:=hR.hh _ _ rfl
                 have hdd : Dp w (.slice ys) (β d) (φ d):=by cases hOd with | dp _ hD => exact hD.dp
                 have fl:=xa9 hR.hk
                 have hxl:=hR.hw.1
                 have hle : c.1 * k + k<=es'.length * k:=by
                  have : (c.1 + 1) * k<=es'.length * k:=Nat.mul_le_mul_right k (by omega)
                  rwa [Nat.add_mul,Nat.one_mul] at this
                 obtain ⟨f1,f2⟩:=yq0 (fo:=c.2) (ds:=[.slice ys]) hR.hk hc1 (by simp; omega) (by simp) (by simp [D.isAgg])
                 refine .inr ⟨e,k,xs,fun i g => if i=c.1 * k + c.2 then φ d g else fs i g,ht,hR.hk0,f2,by simpa [setC] using hR.hw,fun b hb => ⟨.inl (hR.hb b hb).1,fun i => ?_⟩,fun i g hg => ?_,fun i i' g => ?_,fun i hi _ => ?_,fun _ _ h => by cases h⟩
                 . split
                   . exact fun hg => hdis b (hR.hb b hb).1 hg
                   . exact (hR.hb b hb).2 i
                 . split at hg
                   . exact .inr hg
                   . exact .inl (hR.hf _ _ hg)
                 . split<;>split
                   . intro _ _; omega
                   . intro h1 h2; exact (hdis g (hR.hf _ _ h2) h1).elim
                   . intro h1 h2; exact (hdis g (hR.hf _ _ h1) h2).elim
                   . exact hR.hd i i' g
                 . rw [f1,xd5 (ds:=flat es') (xs:=[.slice ys]) (by simp; omega)] at hi
                   rw [f1,xe2 (ds:=flat es') (xs:=[.slice ys]) (by simp; omega)]
                   by_cases e1 : i=c.1 * k + c.2
                   . subst e1
                     simp only [List.length_singleton,Nat.le_refl,Nat.lt_add_one,and_self,if_true,Nat.sub_self,List.getD_cons_zero]
                     rw [← hβ]; exact hdd
                   . rw [if_neg (by simp; omega)]
                     simp only [e1,if_false]
                     exact hR.hr i hi fun c' d' e2 => by cases e2; exact fun e3 => e1 e3.symm
         . rename_i hne
           obtain ⟨h1,y,h2,rfl⟩:=xe0 hi
           exact .inl ⟨by rintro (h3 | h3); exact hne h3; exact h1 h3,xf3 i hne,rfl,y,h2,xk7.symm,fun S w v F hO => hO.wipe fun _ _ => rfl⟩
     . cases hq
 . cases hq
end
end Abs
