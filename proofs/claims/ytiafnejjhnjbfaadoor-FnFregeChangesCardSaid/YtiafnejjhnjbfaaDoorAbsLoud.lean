/- What functions of this program compute, over plain data. No condition. -/
import Derived.Test.YtiafnejjhnjbfaaDoorAbsQuiet
set_option linter.all false
namespace Abs
open Go Go.RowKit

mutual
def AV.frz (j : Nat) (es : List D) : AV->AV
 | .sl i => if i=j then .d (.slice es) else .sl i
 | .p i o => if i=j then .undef else .p i o
 | .pe i k n o => if i=j then .undef else .pe i k n o
 | .mq i => if i=j then .undef else .mq i
 | .sf i k l => if i=j then .undef else .sf i k l
 | .vw i q n k => if q=j then .undef else .vw i q n k
 | .pv i q k n o => if q=j then .undef else .pv i q k n o
 | .tup xs => .tup (AV.frzL j es xs)
 | .st xs => .st (AV.frzL j es xs)
 | .fn f cs => .fn f (AV.frzL j es cs)
 | x => x
def AV.frzL (j : Nat) (es : List D) : List AV->List AV
 | [] => []
 | x :: r => x.frz j es :: AV.frzL j es r
end
theorem frzL_length {j es} : ∀ xs : List AV,(AV.frzL j es xs).length=xs.length
 | [] => rfl
 | x :: r => by simp [AV.frzL,frzL_length r]
theorem frzL_getD {j es} : ∀ (xs : List AV) (i : Nat),(AV.frzL j es xs).getD i .undef=(xs.getD i .undef).frz j es
 | [],i => by simp [AV.frzL,AV.frz]
 | x :: r,0 => by simp [AV.frzL]
 | x :: r,i + 1 => by simpa [AV.frzL] using frzL_getD r i

def frzS (j : Nat) (es : List D) : List (Nat × AV)->List (Nat × AV)
 | [] => []
 | (k,v) :: r => (k,v.frz j es) :: frzS j es r
def AO.frz (j : Nat) (es : List D) : AO->AO
 | .box e cells => .box e (AV.frzL j es cells)
 | .dp t xs (some (c,some d)) => .dp t xs (if d=j then some (c,none) else some (c,some d))
 | x => x
def frzO (j : Nat) (es : List D) : List (Nat × AO)->List (Nat × AO)
 | [] => []
 | (k,v) :: r => if k=j then frzO j es r else (k,v.frz j es) :: frzO j es r
def St.frz (j : Nat) (es : List D) (st : St) : St:=⟨frzS j es st.s,frzO j es st.o⟩

theorem lk_frzS {i j es} : ∀ {l : List (Nat × AV)} {v},lk i (frzS j es l)=some v->∃ u,lk i l=some u∧v=u.frz j es
 | [],_,h => by simp [frzS,lk] at h
 | (k, u) :: r, v, h => by
   simp only [frzS,lk] at h
   simp only [lk]
   split at h
   . rename_i e; rw [if_pos e]; cases h; exact ⟨u,rfl,rfl⟩
   . rename_i e; rw [if_neg e]; exact lk_frzS h
theorem lk_frzO {i j es} : ∀ {l : List (Nat × AO)} {o},lk i (frzO j es l)=some o->i ≠ j∧∃ o',lk i l=some o'∧o=o'.frz j es
 | [],_,h => by simp [frzO,lk] at h
 | (k, v) :: r, o, h => by
   simp only [frzO] at h
   split at h
   . rename_i hk
     obtain ⟨h1,o',h2,h3⟩:=lk_frzO h
     exact ⟨h1,o',by simp only [lk]; rw [if_neg (by omega)]; exact h2,h3⟩
   . rename_i hk
     simp only [lk] at h
     split at h
     . rename_i e; subst e; cases h; exact ⟨hk,v,by simp [lk],rfl⟩
     . rename_i e
       obtain ⟨h1,o',h2,h3⟩:=lk_frzO h
       exact ⟨h1,o',by simp only [lk]; rw [if_neg e]; exact h2,h3⟩

theorem Dp.rd {w} : ∀ {x v F},Dp w x v F->∀ {S : Nat->Prop},(∀ g,F g->S g)->Rd S w x v:=by
 intro x v F h
 induction h with
 | int k n => exact fun _ => .int k n
 | bool b => exact fun _ => .bool b
 | str s => exact fun _ => .str s
 | nil v _ h => exact fun _ => Dp.rd_bare (F:=fun _ => True) rfl (.nil v _ h)
 | sl1 _ _ ih => exact fun hS => .sl1 (ih hS)
 | slice xs fs hk0 hk hw hb hf hd hr ih =>
   rename_i es v F e k
   intro S hS
   rcases hw.2 with ⟨h1,h2⟩ | ⟨g,cap,cur,h1,_,h3,h4,_⟩
   . have : es=[]:=List.eq_nil_of_length_eq_zero h2
     subst this; subst h1; exact .nil _
   . have hfl : (flat es).length=xs.length:=by rw [flat_length hk,hw.1]
     subst h1
     exact .slice (fun i => xs.getD i Go.undef) hk h4 (fun i hi => ⟨hS _ (hb g rfl).1,by rw [Nat.zero_add]; exact ownsRow_cell hw rfl (by omega)⟩)
      fun i hi => ih i hi fun g hg => hS g (hf i g hg)
theorem DpO.dp {β w t es v F} (h : DpO β w t es none v F) : Dp w (.slice es) v F:=by
 rcases h with ⟨_,_,rfl,h⟩ | ⟨e,k,xs,fs,_,h⟩
 . exact .nil v F h
 . exact .slice xs fs h.hk0 h.hk h.hw h.hb h.hf h.hd fun i hi => h.hr i hi (by simp)
theorem DpO.of {β w es v F} (h : Dp w (.slice es) v F) : DpO β w none es none v F:=by
 cases h with
 | nil v _ h => exact .inl ⟨rfl,rfl,rfl,h⟩
 | slice xs fs hk0 hk hw hb hf hd hr => exact .inr ⟨_,_,xs,fs,.inl rfl,hk0,hk,hw,hb,hf,hd,fun i hi _ => hr i hi,fun _ _ h => by cases h⟩

theorem rd_of_arr {β S w e k es v F} (h : OK β S w (.arr e k es) v F) {S' : Nat->Prop} (hS : ∀ g,S g->g < w.heap.size->S' g) (hg : ∀ g,F g->S' g) : Rd S' w (.slice es) v:=by
 cases h with
 | arr hF xs hk0 hk hw hr =>
   subst hF
   have hw':=hw
   rcases hw.2 with ⟨h1,h2⟩ | ⟨g,cap,cur,h1,_,h3,h4,_⟩
   . have : es=[]:=List.eq_nil_of_length_eq_zero h2
     subst this; subst h1; exact .nil _
   . have hfl : (flat es).length=xs.length:=by rw [flat_length hk,hw.1]
     subst h1
     exact .slice (fun i => xs.getD i Go.undef) hk h4 (fun i hi => ⟨hg g rfl,by rw [Nat.zero_add]; exact ownsRow_cell hw' rfl (by omega)⟩)
      fun i hi => (hr i hi).move fun g hg hl => ⟨hS g hg hl,rfl⟩
theorem rd_of_dp {β S w t es v F} (h : OK β S w (.dp t es none) v F) {S' : Nat->Prop} (hg : ∀ g,F g->S' g) : Rd S' w (.slice es) v:=by
 cases h with
 | dp hlt h => exact h.dp.rd hg

theorem Rel.frz {β S w j es} (hr : Rd S w (.slice es) (β j)) : ∀ {av v},Rel β S w av v->Rel β S w (av.frz j es) v:=by
 intro av v h
 induction h with
 | undef v => exact .undef v
 | d h => exact .d h
 | sl i =>
   simp only [AV.frz]; split
   . rename_i e; subst e; exact .d hr
   . exact .sl i
 | p h =>
   simp only [AV.frz]; split
   . exact .undef _
   . exact .p h
 | pe h =>
   simp only [AV.frz]; split
   . exact .undef _
   . exact .pe h
 | mq h =>
   simp only [AV.frz]; split
   . exact .undef _
   . exact .mq h
 | sf h hl =>
   simp only [AV.frz]; split
   . exact .undef _
   . exact .sf h hl
 | vw h =>
   simp only [AV.frz]; split
   . exact .undef _
   . exact .vw h
 | pv h =>
   simp only [AV.frz]; split
   . exact .undef _
   . exact .pv h
 | tup hl _ ih => exact .tup (by rw [frzL_length]; exact hl) fun i hi => by rw [frzL_length] at hi; rw [frzL_getD]; exact ih i hi
 | fn hl _ ih => exact .fn (by rw [frzL_length]; exact hl) fun i hi => by rw [frzL_length] at hi; rw [frzL_getD]; exact ih i hi
 | e0n => exact .e0n
 | e0s ad => exact .e0s ad
 | hdr h => exact .hdr h
 | nilS => exact .nilS
 | st hl _ ih => exact .st (by rw [frzL_length]; exact hl) fun i hi => by rw [frzL_length] at hi; rw [frzL_getD]; exact ih i hi

theorem OK.frz {β S w j es o v F} (hr : Rd S w (.slice es) (β j)) (h : OK β S w o v F) : OK β S w (o.frz j es) v F:=by
 cases h with
 | box hF xs hv hw hrel =>
   exact .box hF xs hv (by rw [frzL_length]; exact hw) fun i hi => by rw [frzL_length] at hi; rw [frzL_getD]; exact (hrel i hi).frz hr
 | arr hF xs hk0 hk hw hrel => exact .arr hF xs hk0 hk hw hrel
 | arv hF xs hv hk0 hk hw hrel => exact .arv hF xs hv hk0 hk hw hrel
 | mp b ms c hF hv hbb he => exact .mp b ms c hF hv hbb he
 | res hv hlt fs hr2 hf hd => exact .res hv hlt fs hr2 hf hd
 | arw hlt xs hk0 hk hw hbb hr2 hv => exact .arw hlt xs hk0 hk hw hbb hr2 hv
 | view hF b c hv => exact .view hF b c hv
 | d1 hlt h => exact .d1 hlt h
 | dp hlt h =>
   rename_i t xs ho
   rcases h with ⟨rfl,rfl,rfl,h⟩ | ⟨e,k,ys,fs,ht,h⟩
   . exact .dp hlt (.inl ⟨rfl,rfl,rfl,h⟩)
   . rcases ho with _ | ⟨c,_ | d⟩
     . exact .dp hlt (.inr ⟨e,k,ys,fs,ht,h⟩)
     . exact .dp hlt (.inr ⟨e,k,ys,fs,ht,h⟩)
     . simp only [AO.frz]
       split
       . exact .dp hlt (.inr ⟨e,k,ys,fs,ht,{ h with hr:=fun i hi hn => h.hr i hi fun c' d' e => by cases e; exact hn _ none rfl,hh:=fun _ _ h => by cases h }⟩)
       . exact .dp hlt (.inr ⟨e,k,ys,fs,ht,h⟩)

def rowOf : AO->Option (List D)
 | .arr _ _ es => some es
 | .dp _ es none => some es
 | _ => none
theorem rd_of_row {β S w o es v F} (h : OK β S w o v F) (ho : rowOf o=some es) {S' : Nat->Prop} (hS : ∀ g,S g->g < w.heap.size->S' g) (hg : ∀ g,F g->S' g) : Rd S' w (.slice es) v:=by
 cases o with
 | arr e k es' => cases ho; exact rd_of_arr h hS hg
 | dp t es' ho' => cases ho' with
   | none => cases ho; exact rd_of_dp h hg
   | some p => cases ho
 | _ => cases ho

theorem frz_res {j es} {o : AO} (h : (o.frz j es).isRes=false) : o.isRes=false:=by
 unfold AO.frz at h; split at h<;>first | rfl | exact h
theorem SimB.frz' {Z β φ N B M w0 st a w} (h : SimB Z β φ N B M w0 st a w) {j ob es} (hj : lk j st.o=some ob) (hob : rowOf ob=some es) : SimB Z β φ N B M w0 (st.frz j es) a w:=by
 have hS : ∀ g,free Z φ st.o g->g < w.heap.size->free Z φ (st.frz j es).o g∧w.heap[g]? = w.heap[g]? := fun g hg _ => by
  refine ⟨⟨hg.1,fun i x hi hx => ?_⟩,rfl⟩
  obtain ⟨hne,o',ho',rfl⟩:=lk_frzO hi
  exact hg.2 i o' ho' (frz_res hx)
 have hr : Rd (free Z φ (st.frz j es).o) w (.slice es) (β j):=rd_of_row (h.objs j _ hj) hob (fun g hg hl => (hS g hg hl).1) fun g hg => ⟨h.z g (h.own j _ g hj hg),fun i x hi _ hgi => by
  obtain ⟨hne,o',ho',_⟩:=lk_frzO hi
  exact hne (h.disj i j o' _ g ho' hj hgi hg)⟩
 refine ⟨h.nd.move hS,h.size,fun i av hi => ?_,fun i o hi => ?_,fun i o g hi hg => ?_,fun i i' o o' g hi hi' hg hg' => ?_,h.fr,h.z,h.gw⟩
 . obtain ⟨u,hu,rfl⟩:=lk_frzS hi
   exact ((h.slots i u hu).move hS).frz hr
 . obtain ⟨hne,o',ho',rfl⟩:=lk_frzO hi
   exact ((h.objs i o' ho').move hS (Nat.le_refl _) (fun _ _ => rfl)).frz hr
 . obtain ⟨hne,o',ho',_⟩:=lk_frzO hi
   exact h.own i o' g ho' hg
 . obtain ⟨hne,x,hx,_⟩:=lk_frzO hi
   obtain ⟨hne',x',hx',_⟩:=lk_frzO hi'
   exact h.disj i i' x x' g hx hx' hg hg'
theorem SimB.frz {Z β φ N B M w0 st a w} (h : SimB Z β φ N B M w0 st a w) {j e k es} (hj : lk j st.o=some (.arr e k es)) : SimB Z β φ N B M w0 (st.frz j es) a w:=h.frz' hj rfl

def dOf (st : St) (x : Operand) : Option (D × St) :=
 match ev st x with
 | some (.d y) => some (y,st)
 | some .e0 => some (.slice [],st)
 | some (.sl j) => match lk j st.o with
   | some (.arr _ _ es) => some (.slice es,st.frz j es)
   | _ => none
 | _ => none

theorem dOf_spec {Z β φ N B M w0 st a w} (h : SimB Z β φ N B M w0 st a w) {x y st'} (hx : dOf st x=some (y,st')) :
 SimB Z β φ N B M w0 st' a w∧Rd (free Z φ st'.o) w y (a.eval x):=by
 unfold dOf at hx
 split at hx
 . rename_i z hz
   cases hx
   exact ⟨h,ev_d h hz⟩
 . rename_i hz
   cases hx
   refine ⟨h,?_⟩
   have:=ev_spec h hz
   generalize a.eval x=v at *
   cases this with
   | e0n => exact .nil _
   | e0s b => exact .nil _
 . rename_i j hz
   split at hx
   . rename_i e k es hj
     cases hx
     have h':=h.frz hj
     refine ⟨h',?_⟩
     rw [ev_sl h hz]
     exact rd_of_arr (h.objs j _ hj) (fun g hg hl => ⟨hg.1,fun i x hi hx => by
      obtain ⟨hne,o',ho',rfl⟩:=lk_frzO hi
      exact hg.2 i o' ho' (frz_res hx)⟩) fun g hg => ⟨h.z g (h.own j _ g hj hg),fun i x hi _ hgi => by
      obtain ⟨hne,o',ho',_⟩:=lk_frzO hi
      exact hne (h.disj i j o' _ g ho' hj hgi hg)⟩
   . cases hx
 . cases hx
theorem dOf_free {Z : Nat->Prop} {φ st x y st'} (hx : dOf st x=some (y,st')) {g} (hg : free Z φ st.o g) : free Z φ st'.o g:=by
 unfold dOf at hx
 split at hx
 . cases hx; exact hg
 . cases hx; exact hg
 . split at hx
   . cases hx
     refine ⟨hg.1,fun i x hi hx => ?_⟩
     obtain ⟨hne,o',ho',rfl⟩:=lk_frzO hi
     exact hg.2 i o' ho' (frz_res hx)
   . cases hx
 . cases hx
end Abs

namespace Abs
open Go Go.RowKit

def setL {α : Type} (ds : List α) (off : Nat) (xs : List α) : List α:=ds.take off++xs++ds.drop (off + xs.length)
theorem setL_length {α : Type} {ds : List α} {off} {xs : List α} (h : off + xs.length<=ds.length) : (setL ds off xs).length=ds.length:=by
 simp [setL]; omega
theorem setL_getD {α : Type} {ds : List α} {off} {xs : List α} {z : α} (h : off + xs.length<=ds.length) (i : Nat) :
 (setL ds off xs).getD i z=if off<=i∧i < off + xs.length then xs.getD (i - off) z else ds.getD i z:=by
 simp only [setL,List.getD_eq_getElem?_getD]
 by_cases h1 : i < off
 . rw [if_neg (by omega),List.append_assoc,List.getElem?_append_left (by simp; omega),List.getElem?_take,if_pos h1]
 . by_cases h2 : i < off + xs.length
   . rw [if_pos (by omega),List.append_assoc,List.getElem?_append_right (by simp; omega),List.getElem?_append_left (by simp; omega)]
     congr 2; simp; omega
   . rw [if_neg (by omega),List.getElem?_append_right (by simp; omega),List.getElem?_drop]
     congr 2; simp; omega

def D.atom : D->Bool
 | .agg _ => false
 | .tup _ => false
 | _ => true
def D.ok (k : Nat) (x : D) : Prop:=x.cells.length=k∧∀ c ∈ x.cells,c.atom=true

theorem atom_one {S w x v} (h : Rd S w x v) (ha : x.atom=true) : v.oneCell'=true:=by
 cases h<;>first | rfl | (cases ha; done) | (rename_i h; cases h<;>rfl)
theorem rd_cells {S w x v} (h : Rd S w x v) : v.cells.toList.length=x.cells.length∧∀ i,i < x.cells.length->Rd S w (x.cells.getD i .nilptr) (v.cells.toList.getD i Go.undef):=by
 have one : ∀ {y u},Rd S w y u->y.cells=[y]->u.cells=#[u] ->
  u.cells.toList.length=y.cells.length∧∀ i,i < y.cells.length->Rd S w (y.cells.getD i .nilptr) (u.cells.toList.getD i Go.undef):=by
  intro y u hy e1 e2
  rw [e1,e2]
  refine ⟨rfl,fun i hi => ?_⟩
  have : i=0:=by simpa using hi
  subst this; simpa using hy
 cases h with
 | agg hl hr => exact ⟨by simpa [Value.cells,D.cells] using hl,by simpa [Value.cells,D.cells] using hr⟩
 | int k n => exact one (.int k n) rfl rfl
 | bool b => exact one (.bool b) rfl rfl
 | str s => exact one (.str s) rfl rfl
 | nil a0 => exact one (.nil a0) rfl rfl
 | slice vs hk hcap hc hr => exact one (.slice vs hk hcap hc hr) rfl rfl
 | ptr vs hc hr => exact one (.ptr vs hc hr) rfl rfl
 | nilptr => exact one .nilptr rfl rfl
 | fn hl hl' hr hr' => exact one (.fn hl hl' hr hr') rfl rfl
 | nilfn => exact one .nilfn rfl rfl
 | map ms hS hb he => exact one (.map ms hS hb he) rfl rfl
 | nilmap => exact one .nilmap rfl rfl
 | tag h' => exact one (.tag h') rfl (by cases h'<;>rfl)
 | sl1 h' => exact one (.sl1 h') rfl (by cases h'<;>rfl)
 | tup hl hr => exact one (.tup hl hr) rfl rfl
theorem ok_ones {S w x v} (h : Rd S w x v) {k} (hk : x.ok k) : ∀ u ∈ v.cells.toList,u.oneCell'=true:=by
 obtain ⟨h1,h2⟩:=rd_cells h
 intro u hu
 obtain ⟨i,hi,rfl⟩:=List.getElem_of_mem hu
 have hi' : i < x.cells.length:=by omega
 have:=h2 i hi'
 rw [List.getD_eq_getElem?_getD,List.getD_eq_getElem?_getD,List.getElem?_eq_getElem hi,List.getElem?_eq_getElem hi'] at this
 exact atom_one this (hk.2 _ (List.getElem_mem hi'))

def stOK : List AV->Bool
 | [] => true
 | .d y :: r => y.atom && stOK r
 | .sl _ :: r => stOK r
 | .nilS :: r => stOK r
 | .mq _ :: r => stOK r
 | _ :: _ => false
theorem stOK_mem : ∀ {cs : List AV} {c},stOK cs=true->c ∈ cs->(∃ y,c=.d y∧y.atom=true)∨(∃ j,c=.sl j)∨c=.nilS∨∃ j,c=.mq j
 | .d y :: r, c, h, hc => by
   simp only [stOK,Bool.and_eq_true] at h
   rcases List.mem_cons.1 hc with rfl | hc
   . exact .inl ⟨y,rfl,h.1⟩
   . exact stOK_mem h.2 hc
 | .sl j :: r, c, h, hc => by
   simp only [stOK] at h
   rcases List.mem_cons.1 hc with rfl | hc
   . exact .inr (.inl ⟨j,rfl⟩)
   . exact stOK_mem h hc
 | .nilS :: r, c, h, hc => by
   simp only [stOK] at h
   rcases List.mem_cons.1 hc with rfl | hc
   . exact .inr (.inr (.inl rfl))
   . exact stOK_mem h hc
 | .mq j :: r, c, h, hc => by
   simp only [stOK] at h
   rcases List.mem_cons.1 hc with rfl | hc
   . exact .inr (.inr (.inr ⟨j,rfl⟩))
   . exact stOK_mem h hc
def AV.isSl (j : Nat) (av : AV) : Prop:=av=.sl j∨∃ cs,av=.st cs∧.sl j ∈ cs
def boxCells : AV->Option (List AV)
 | .st cs => if stOK cs then some cs else none
 | .d y => some (y.cells.map .d)
 | .sl j => some [.sl j]
 | .p j o => some [.p j o]
 | .fn f cs => some [.fn f cs]
 | .nilS => some [.nilS]
 | .mq j => some [.mq j]
 | _ => none
def AV.atoms : AV->Prop
 | .d y => ∀ c ∈ y.cells,c.atom=true
 | _ => True
theorem boxCells_spec {β S w av v cs} (h : Rel β S w av v) (hb : boxCells av=some cs) (hsl : ∀ j,av.isSl j->∃ a n c,β j=.slice a n c) :
 v.cells.toList.length=cs.length∧(∀ i,i < cs.length->Rel β S w (cs.getD i .undef) (v.cells.toList.getD i Go.undef))∧(av.atoms->∀ u ∈ v.cells.toList,u.oneCell'=true):=by
 have one : ∀ {y u},Rel β S w y u->u.cells=#[u]->u.oneCell'=true->u.cells.toList.length=[y].length ∧
  (∀ i,i < [y].length->Rel β S w ([y].getD i .undef) (u.cells.toList.getD i Go.undef))∧(y.atoms->∀ z ∈ u.cells.toList,z.oneCell'=true):=by
  intro y u hy e1 e2
  rw [e1]
  refine ⟨rfl,fun i hi => ?_,fun _ z hz => by simp at hz; rw [hz]; exact e2⟩
  have : i=0:=by simpa using hi
  subst this; simpa using hy
 cases av<;>simp only [boxCells,Option.some.injEq,reduceCtorEq] at hb
 . subst hb
   cases h with
   | d hr =>
     obtain ⟨h1,h2⟩:=rd_cells hr
     refine ⟨by simpa using h1,fun i hi => ?_,fun ha => ok_ones hr ⟨rfl,ha⟩⟩
     simp only [List.length_map] at hi
     have:=h2 i hi
     simp only [List.getD_eq_getElem?_getD,List.getElem?_map,List.getElem?_eq_getElem hi,Option.map_some,Option.getD_some] at this ⊢
     exact .d this
 . subst hb
   rename_i j
   obtain ⟨a,n,c,e⟩:=hsl j (.inl rfl)
   cases h
   exact one (.sl j) (by rw [e]; rfl) (by rw [e]; rfl)
 . subst hb; cases h with | p hβ => exact one (.p hβ) rfl rfl
 . subst hb; cases h with | fn hl hr => exact one (.fn hl hr) rfl rfl
 . subst hb; cases h with | nilS => exact one .nilS rfl rfl
 . rename_i xs
   split at hb
   . rename_i hok
     cases hb
     cases h with
     | st hl hr =>
       rename_i vs
       refine ⟨by simpa [Value.cells] using hl,by simpa [Value.cells] using hr,fun _ u hu => ?_⟩
       have hu : u ∈ vs:=by simpa [Value.cells] using hu
       obtain ⟨i,hi,rfl⟩:=List.getElem_of_mem hu
       have h1:=hr i (by omega)
       have hix : i < cs.length:=by omega
       simp only [List.getD_eq_getElem?_getD,List.getElem?_eq_getElem hi,List.getElem?_eq_getElem hix,Option.getD_some] at h1
       rcases stOK_mem hok (List.getElem_mem hix) with ⟨y,hy,hat⟩ | ⟨j,hj⟩ | hj | ⟨j,hj⟩
       . rw [hy] at h1; cases h1 with | d h2 => exact atom_one h2 hat
       . obtain ⟨a,n,c,e⟩:=hsl j (.inr ⟨cs,rfl,hj ▸ List.getElem_mem hix⟩)
         rw [hj] at h1
         generalize vs[i]=v at *
         cases h1
         rw [e]; rfl
       . rw [hj] at h1
         generalize vs[i]=v at *
         cases h1; rfl
       . rw [hj] at h1
         generalize vs[i]=v at *
         cases h1; rfl
   . cases hb
 . subst hb; cases h with | mq hβ => exact one (.mq hβ) rfl rfl

theorem OK.is_slice {β S w o v F} (h : OK β S w o v F) : ∃ a n c,v=.slice a n c:=by
 have key : ∀ {e k n xs},w.ownsRow 0 e k v n xs->∃ a n c,v=.slice a n c:=by
  intro e k n xs hw
  rcases hw.2 with ⟨h1,_⟩ | ⟨g,cap,cur,h1,_⟩<;>exact ⟨_,_,_,h1⟩
 cases h with
 | box hF xs hv hw hr => exact key hw
 | arr hF xs hk0 hk hw hr => exact key hw
 | arv hF xs hv hk0 hk hw hr => exact key hw
 | mp b ms c hF hv hbb he => exact ⟨_,_,_,hv⟩
 | res hv hlt fs hr hf hd => exact ⟨_,_,_,hv⟩
 | arw hlt xs hk0 hk hw hbb hr hv => exact key hw
 | view hF b c hv => exact ⟨_,_,_,hv⟩
 | d1 hlt h => cases h with | sl1 h h0 => cases h with
   | nil _ _ hE => cases hE<;>exact ⟨_,_,_,rfl⟩
   | slice xs fs hk0 hk hw hb hf hd hr => exact key hw
 | dp hlt h => rcases h with ⟨_, _, _, h⟩ | ⟨e, k, xs, fs, _, h⟩
               . cases h<;>exact ⟨_,_,_,rfl⟩
               . exact key h.hw

theorem flat_one {cs : List D} (hc : ∀ x ∈ cs,x.isAgg=false) : flat cs=cs:=by
 induction cs with
 | nil => rfl
 | cons x r ih =>
   have hx:=cells_one (hc x (by simp))
   have:=ih fun y hy => hc y (by simp [hy])
   simp only [flat,List.flatMap_cons,hx] at this ⊢
   rw [this]; rfl

section
variable {P : Program} {Z : Nat->Prop} {β : Nat->Value} {φ : Nat->Nat->Prop} {N B : Nat} {M : Nat->Prop} {w0 : World} {st : St} {a : Act} {w : World}

theorem lk_kill {j : Nat} : lk j (st.kill j).o=none:=by
 cases h : lk j (st.kill j).o with
 | none => rfl
 | some o => exact absurd rfl (lk_wipeO h).1

theorem SimB.newF (h : SimB Z β φ N B M w0 st a w) {d : Nat} {o : AO} {hd : Value} {F : Nat->Prop} {w' : World} (hg : Gb w w' none) (hnew : ∀ g,F g->w.heap.size<=g)
 (hok : ∀ β' S',(∀ av u,av.has d=false->Rel β (free Z φ st.o) w av u->Rel β' S' w' av u)->(∀ x u,Rd (free Z φ st.o) w x u->Rd S' w' x u)->OK β' S' w' o hd F) :
 SimB Z (upd β d hd) (updF φ d F) N B M w0 ⟨wipeS d st.s,ins d o (wipeO d st.o)⟩ a w':=by
 have hk:=h.kill (β':=upd β d hd) (φ':=updF φ d F) d upd_ne updF_ne
 have hS : ∀ g,free Z φ st.o g->free Z (updF φ d F) (st.kill d).o g:=fun g hg => free_wipe updF_ne hg
 refine hk.layNew lk_kill hg (by rw [updF_eq]; exact hnew) fun S' h1 h2 => ?_
 rw [upd_eq,updF_eq]
 exact hok _ S' (fun av u hh hr => h1 av u ((hr.other upd_ne hh).move fun g hg _ => ⟨hS g hg,rfl⟩)) fun x u hr => h2 x u (hr.weaken hS)
theorem SimB.new (h : SimB Z β φ N B M w0 st a w) {d : Nat} {o : AO} {hd : Value} {w' : World} (hg : Gb w w' none) (hnew : ∀ g,hd.ownBlock=some g->w.heap.size<=g)
 (hok : ∀ β' S',(∀ av u,av.has d=false->Rel β (free Z φ st.o) w av u->Rel β' S' w' av u)->(∀ x u,Rd (free Z φ st.o) w x u->Rd S' w' x u)->OK β' S' w' o hd (ownS hd)) :
 SimB Z (upd β d hd) (updF φ d (ownS hd)) N B M w0 ⟨wipeS d st.s,ins d o (wipeO d st.o)⟩ a w':=h.newF hg hnew hok

theorem grownBy_alloc (w : World) (o : Obj) : Gb w (w.alloc o) none:=⟨World.grownBy_alloc w o none,Nat.le_refl _⟩

def boxO (P : Program) (t : TypeId) (av : AV) : Option (Prop × AO) :=
 match elemAr P t with
 | none => (boxCells av).map fun cs => (True,.box t cs)
 | some (_, e) => match av with
   | .d (.agg cs) => if aggT P e then none else some (∀ x ∈ cs,x.isAgg=false,.arv t 1 cs)
   | _ => none

theorem boxO_ok {d t av c o v} (h : SimB Z β φ N B M w0 st a w) (hq : boxO P t av=some (c,o)) (hc : c) (hv : Rel β (free Z φ st.o) w av v) (hsl : ∀ j,av.isSl j->∃ a n c,β j=.slice a n c)
 (hd : av.has d=false) {β' : Nat->Value} {S' : Nat->Prop} 
 (h1 : ∀ av u,av.has d=false->Rel β (free Z φ st.o) w av u->Rel β' S' (w.alloc (.cells v.cells t)) av u) (h2 : ∀ x u,Rd (free Z φ st.o) w x u->Rd S' (w.alloc (.cells v.cells t)) x u) :
 OK β' S' (w.alloc (.cells v.cells t)) o (.slice (some ⟨w.heap.size,0,none⟩) 1 1) (ownS (.slice (some ⟨w.heap.size,0,none⟩) 1 1)):=by
 unfold boxO at hq
 have hrow : ∀ n,v.cells.toList.length=n->(w.alloc (.cells v.cells t)).ownsRow 0 t n (.slice (some ⟨w.heap.size,0,none⟩) 1 1) 1 v.cells.toList:=fun n hn => by
  have:=World.ownsRow_lit (base:=0) (e:=t) (size:=n) w v.cells 1 (Nat.zero_le _) (by decide) (by simpa using hn)
  exact this
 split at hq
 . obtain ⟨cs,hcs,he⟩:=Option.map_eq_some_iff.1 hq
   cases he
   obtain ⟨e1,e2,_⟩:=boxCells_spec hv hcs hsl
   refine .box rfl v.cells.toList (by simp) (hrow _ e1) fun i hi => ?_
   refine h1 _ _ ?_ (e2 i hi)
   cases av<;>simp only [boxCells,Option.some.injEq,reduceCtorEq] at hcs
   case st xs =>
    split at hcs
    . cases hcs; exact AV.hasL_getD (by simpa [AV.has] using hd) i
    . cases hcs
   all_goals subst hcs
   . simp only [List.getD_eq_getElem?_getD,List.getElem?_map]
     cases (D.cells _)[i]? <;> simp [AV.has]
   all_goals
    have : i=0:=by simpa using hi
    subst this
    simpa using hd
 . rename_i n e he
   split at hq
   . rename_i cs
     split at hq
     . cases hq
     . cases hq
       cases hv with
       | d hr =>
         obtain ⟨vs,rfl,hl,hr'⟩:=rd_agg hr
         have hflat : flat cs=cs:=flat_one hc
         refine .arv rfl vs (by simp) (by omega) (fun x hx => by rw [cells_one (hc x hx)]; rfl) ?_ fun i hi => ?_
         . rw [hflat]; simpa [Value.cells] using hrow cs.length (by simpa [Value.cells] using hl)
         . rw [hflat] at hi ⊢; exact h2 _ _ (hr' i hi)
   . cases hq

def zeroD (P : Program) (t : TypeId) : Option D :=
 match (zeroOf P t).bind cv with
 | some (.d x) => some x
 | _ => none
theorem zeroD_spec {P : Program} {t x} (h : zeroD P t=some x) : ∃ i z,P.info? t=some i∧i.zero=some z∧∀ S w,Rd S w x z:=by
 unfold zeroD at h
 split at h
 . rename_i y hy
   cases h
   obtain ⟨z,hz,hc⟩:=Option.bind_eq_some_iff.1 hy
   obtain ⟨i,hi,hz'⟩:=Option.bind_eq_some_iff.1 hz
   refine ⟨i,z,hi,hz',fun S w => ?_⟩
   have:=cv_spec (β:=fun _ => Go.undef) (S:=S) (w:=w) hc
   cases this; assumption
 . cases h
def nz : D->AV
 | .slice [] => .nilS
 | .slice (x :: r) => .d (.slice (x :: r))
 | .int k n => .d (.int k n)
 | .bool b => .d (.bool b)
 | .str s => .d (.str s)
 | .agg cs => .d (.agg cs)
 | .ptr x => .d (.ptr x)
 | .nilptr => .d .nilptr
 | .fn f a b => .d (.fn f a b)
 | .nilfn => .d .nilfn
 | .tup xs => .d (.tup xs)
 | .map q r es => .d (.map q r es)
 | .nilmap => .d .nilmap
 | .tag u es => .d (.tag u es)
 | .sl1 es => .d (.sl1 es)
theorem nz_eq (x : D) : (x=.slice []∧nz x=.nilS)∨nz x=.d x:=by
 cases x<;>first | exact .inr rfl | skip
 rename_i es
 cases es
 . exact .inl ⟨rfl,rfl⟩
 . exact .inr rfl
theorem nz_has (x : D) (d : Nat) : (nz x).has d=false:=by
 rcases nz_eq x with ⟨_,h⟩ | h<;>rw [h]<;>rfl
theorem nz_sl (x : D) {j} : ¬ (nz x).isSl j:=by
 rcases nz_eq x with ⟨_,h⟩ | h<;>rw [h]<;>rintro (h | ⟨_,h,_⟩)<;>cases h
theorem zeroD_nz {P : Program} {t x} (h : zeroD P t=some x) : ∃ i z,P.info? t=some i∧i.zero=some z∧∀ β S w,Rel β S w (nz x) z:=by
 obtain ⟨i,z,hi,hz,hr⟩:=zeroD_spec h
 refine ⟨i,z,hi,hz,fun β S w => ?_⟩
 rcases nz_eq x with ⟨hx,e⟩ | e
 . rw [e]
   subst hx
   have h1 : (zeroOf P t).bind cv=some (.d (.slice [])):=by
    unfold zeroD at h
    split at h
    . rename_i y hy; cases h; exact hy
    . cases h
   rw [show zeroOf P t=some z by simp [zeroOf,hi,hz],Option.bind_some] at h1
   have : z=.slice none 0 0:=by
    unfold cv at h1
    split at h1
    . cases hcd : cDs _<;>rw [hcd] at h1<;>simp at h1
    . unfold cD at h1
      split at h1<;>simp at h1
      rfl
   rw [this]; exact .nilS
 . rw [e]; exact .d (hr S w)

def dsOf (st : St) : List (Nat × Operand)->Option (List (Nat × D) × St)
 | [] => some ([],st)
 | (i, x) :: r => match dOf st x with
   | some (y, st') => match dsOf st' r with
     | some (ys,st'') => some ((i,y) :: ys,st'')
     | none => none
   | none => none
theorem dsOf_spec : ∀ {ps st ys st'},SimB Z β φ N B M w0 st a w->dsOf st ps=some (ys,st')->SimB Z β φ N B M w0 st' a w∧(∀ g,free Z φ st.o g->free Z φ st'.o g) ∧
 ys.map (·.1)=ps.map (·.1)∧∀ i,i < ys.length->Rd (free Z φ st'.o) w (ys.getD i (0,.nilptr)).2 (a.eval (ps.getD i (0,.global 0)).2)
 | [],st,ys,st',h,hq => by simp [dsOf] at hq; obtain ⟨rfl,rfl⟩:=hq; exact ⟨h,fun _ hg => hg,rfl,by simp⟩
 | (i, x) :: r, st, ys, st', h, hq => by
   simp only [dsOf] at hq
   split at hq
   . rename_i y st1 hy
     split at hq
     . rename_i zs st2 hz
       cases hq
       obtain ⟨h1,h2⟩:=dOf_spec h hy
       obtain ⟨h3,h4,h5,h6⟩:=dsOf_spec h1 hz
       refine ⟨h3,fun g hg => h4 g (dOf_free hy hg),by simp [h5],fun j hj => ?_⟩
       cases j with
       | zero => simpa using h2.weaken h4
       | succ j => simpa using h6 j (by simpa using hj)
     . cases hq
   . cases hq

def fillD (place : Nat->Option (Nat × Nat)) (ds : List D) : List (Nat × D)->Option (List D)
 | [] => some ds
 | (i, x) :: r => match place i with
   | some (off,size) => if x.cells.length=size∧off + x.cells.length<=ds.length then fillD place (setL ds off x.cells) r else none
   | none => none

theorem foldl_set_getD (off : Nat) : ∀ (l : List Value) (k : Nat) (cs : Array Value) (i : Nat),off + k + l.length<=cs.size ->
 (((l.zipIdx k).foldl (fun cs (c : Value × Nat) => cs.setIfInBounds (off + c.2) c.1) cs).toList.getD i Go.undef =
   if off + k<=i∧i < off + k + l.length then l.getD (i - off - k) Go.undef else cs.toList.getD i Go.undef) ∧
 ((l.zipIdx k).foldl (fun cs (c : Value × Nat) => cs.setIfInBounds (off + c.2) c.1) cs).size=cs.size
 | [],k,cs,i,_ => by simp; intro h1 h2; omega
 | v :: r, k, cs, i, hl => by
   simp only [List.length_cons] at hl
   obtain ⟨h1,h2⟩:=foldl_set_getD off r (k + 1) (cs.setIfInBounds (off + k) v) i (by simp; omega)
   simp only [List.zipIdx_cons,List.foldl_cons]
   refine ⟨?_,by rw [h2]; simp⟩
   rw [h1]
   simp only [List.length_cons]
   by_cases e : i=off + k
   . subst e
     rw [if_neg (by omega),if_pos (by omega)]
     have : off + k - off - k=0:=by omega
     rw [this]
     have h3 : off + k < cs.size:=by omega
     simp [List.getD_eq_getElem?_getD,h3]
   . have h4 : (cs.setIfInBounds (off + k) v).toList.getD i Go.undef=cs.toList.getD i Go.undef:=by
      simp only [List.getD_eq_getElem?_getD,Array.getElem?_toList]
      rw [Array.getElem?_setIfInBounds_ne (Ne.symm e)]
     rw [h4]
     by_cases h5 : off + (k + 1)<=i∧i < off + (k + 1) + r.length
     . rw [if_pos h5,if_pos (by omega)]
       have : i - off - k=(i - off - (k + 1)) + 1:=by omega
       rw [this]; simp
     . rw [if_neg h5,if_neg (by omega)]

def RdL (S : Nat->Prop) (w : World) (ds : List D) (vs : List Value) : Prop:=vs.length=ds.length∧∀ i,i < ds.length->Rd S w (ds.getD i .nilptr) (vs.getD i Go.undef)

theorem fill_spec {S : Nat->Prop} {place : Nat->Option (Nat × Nat)} : ∀ {ys : List (Nat × D)} {us : List (Nat × Value)} {ds cs r},fillD place ds ys=some r ->
 ys.map (·.1)=us.map (·.1)->(∀ i,i < ys.length->Rd S w (ys.getD i (0,.nilptr)).2 (us.getD i (0,Go.undef)).2)->RdL S w ds cs.toList ->
 ∃ rs : Array Value,Instr.fill place cs us=some rs∧RdL S w r rs.toList
 | [], us, ds, cs, r, hq, he, _, hl => by
   simp [fillD] at hq; subst hq
   have : us=[]:=by simpa using he.symm
   subst this
   exact ⟨cs,rfl,hl⟩
 | (i, x) :: ys, us, ds, cs, r, hq, he, hr, hl => by
   cases us with
   | nil => simp at he
   | cons u us =>
     obtain ⟨i',v⟩:=u
     simp only [List.map_cons,List.cons.injEq] at he
     obtain ⟨rfl,he⟩:=he
     simp only [fillD] at hq
     split at hq
     . rename_i off size hp
       split at hq
       . rename_i hb
         have h0 : Rd S w x v:=by simpa using hr 0 (by simp)
         obtain ⟨h1,h2⟩:=rd_cells h0
         have hsz : v.cells.size=x.cells.length:=by simpa using h1
         have hcs : cs.size=ds.length:=by simpa using hl.1
         obtain ⟨rs,h3,h4⟩:=fill_spec (S:=S) (us:=us) (cs:=(v.cells.zipIdx.foldl (fun cs (c : Value × Nat) => cs.setIfInBounds (off + c.2) c.1) cs)) hq he
          (fun j hj => by simpa using hr (j + 1) (by simpa using hj)) (by
           rw [← Array.foldl_toList,Array.toList_zipIdx]
           obtain ⟨_,e2⟩:=foldl_set_getD off v.cells.toList 0 cs 0 (by simp; omega)
           refine ⟨by rw [Array.length_toList,e2,setL_length hb.2,hcs],fun j hj => ?_⟩
           rw [setL_length hb.2] at hj
           rw [(foldl_set_getD off v.cells.toList 0 cs j (by simp; omega)).1,setL_getD hb.2]
           simp only [Nat.add_zero,Nat.sub_zero,Array.length_toList,hsz]
           split
           . exact h2 _ (by omega)
           . exact hl.2 j hj)
         refine ⟨rs,?_,h4⟩
         have e1 : ¬ (v.cells.size ≠ size):=by rw [hsz]; exact fun h => h hb.1
         have e2 : ¬ (off + v.cells.size > cs.size):=by omega
         simp only [Instr.fill,hp]
         rw [if_neg (by simp only [Bool.or_eq_true,decide_eq_true_eq]; rintro (h | h); exact e1 h; exact e2 h)]
         exact h3
       . cases hq
     . cases hq
end
end Abs
