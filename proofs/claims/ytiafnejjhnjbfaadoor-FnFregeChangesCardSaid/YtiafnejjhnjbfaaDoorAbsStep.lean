/- One operation of a region, abstractly; a contract; and that the machine follows. No condition. -/
import Derived.Test.YtiafnejjhnjbfaaDoorAbsMut
import Derived.WalkSpells
set_option linter.all false
namespace Abs
open Go Go.RowKit

def Enters (P : Program) (f : FuncId) : Prop := ∃ fn, P.funcs[f]? = some fn ∧ fn.body.isNone = false ∧ (fn.name == "runtime.NumGoroutine") = false

def Ctr (P : Program) (f : FuncId) (xs : List D) (sh : Bool) (res : AV) (oo : List (Nat × AO)) : Prop :=
 Enters P f∧∀ (S : Nat->Prop) (w : World) (vs : List Value),vs.length=xs.length->(∀ i,i < xs.length->Rd S w (xs.getD i .nilptr) (vs.getD i Go.undef))->GS S w.heap.size (fun _ => False) w ->
  Calls P f vs.toArray w fun e w' => ∃ v,e=.returned v∧Fr w.heap.size (fun _ => False) w w'∧ResRel (fun g => w.heap.size<=g∨(sh=true∧S g)) w.heap.size w' res oo v

def CtrM (P : Program) (f : FuncId) (avs : List AV) (oi : List (Nat × AO)) (keep : List Nat) (sh : Bool) (res : AV) (oo : List (Nat × AO)) : Prop :=
 Enters P f∧∀ (S : Nat->Prop) (β : Nat->Value) (φ : Nat->Nat->Prop) (w : World) (vs : List Value),vs.length=avs.length->(∀ i,i < avs.length->Rel β (free S φ oi) w (avs.getD i .undef) (vs.getD i Go.undef)) ->
  (∀ j o,lk j oi=some o->OK β (free S φ oi) w o (β j) (φ j))->(∀ j j' o o' g,lk j oi=some o->lk j' oi=some o'->φ j g->φ j' g->j=j')->GS S w.heap.size (blocksOf φ oi) w ->
  Calls P f vs.toArray w fun e w' => ∃ v,e=.returned v∧Fr w.heap.size (blocksOf φ oi) w w' ∧
   ResRelM (fun g => w.heap.size<=g∨blocksOf φ oi g∨(sh=true∧S g)) (fun g => w.heap.size<=g∨blocksOf φ oi g) β keep w' res oo v

def CtrR (P : Program) (f : FuncId) (avs : List AV) (oi : List (Nat × AO)) (keep : List Nat) (sh : Bool) (R : AV->List (Nat × AO)->Prop) : Prop :=
 Enters P f∧∀ (S : Nat->Prop) (β : Nat->Value) (φ : Nat->Nat->Prop) (w : World) (vs : List Value),vs.length=avs.length->(∀ i,i < avs.length->Rel β (free S φ oi) w (avs.getD i .undef) (vs.getD i Go.undef)) ->
  (∀ j o,lk j oi=some o->OK β (free S φ oi) w o (β j) (φ j))->(∀ j j' o o' g,lk j oi=some o->lk j' oi=some o'->φ j g->φ j' g->j=j')->GS S w.heap.size (blocksOf φ oi) w ->
  Calls P f vs.toArray w fun e w' => ∃ v res oo,e=.returned v∧R res oo∧Fr w.heap.size (blocksOf φ oi) w w' ∧
   ResRelM (fun g => w.heap.size<=g∨blocksOf φ oi g∨(sh=true∧S g)) (fun g => w.heap.size<=g∨blocksOf φ oi g) β keep w' res oo v
theorem CtrM.rel {P f avs oi keep sh res oo} (h : CtrM P f avs oi keep sh res oo) : CtrR P f avs oi keep sh fun r o => r=res∧o=oo :=
 ⟨h.1,fun S β φ w vs h1 h2 h3 h4 hG => (h.2 S β φ w vs h1 h2 h3 h4 hG).mono fun _ _ ⟨v,e,h5,h6⟩ => ⟨v,res,oo,e,⟨rfl,rfl⟩,h5,h6⟩⟩
theorem CtrR.eq {P f avs oi keep sh res oo} (h : CtrR P f avs oi keep sh fun r o => r=res∧o=oo) : CtrM P f avs oi keep sh res oo :=
 ⟨h.1,fun S β φ w vs h1 h2 h3 h4 hG => (h.2 S β φ w vs h1 h2 h3 h4 hG).mono fun _ _ ⟨v,_,_,e,⟨rfl,rfl⟩,h5,h6⟩ => ⟨v,e,h5,h6⟩⟩

def viewC (o : List (Nat × AO)) : List AV->Option (List D)
 | [] => some []
 | .d x :: r => match viewC o r with
   | some xs => some (x :: xs)
   | none => none
 | .nilS :: r => match viewC o r with
   | some xs => some (.slice [] :: xs)
   | none => none
 | .sl j :: r => match (lk j o).bind rowOf, viewC o r with
   | some es,some xs => some (.slice es :: xs)
   | _,_ => none
 | _ => none
def viewN (P : Program) (o : List (Nat × AO)) : Nat->AV->Option D
 | 0,_ => none
 | _ + 1,.d x => some x
 | _ + 1,.nilS => some (.slice [])
 | _ + 1, .sl j => match lk j o with
   | some ob => match rowOf ob with
     | some es => some (.slice es)
     | none => none
   | _ => none
 | _ + 1, .st cs => match viewC o cs with
   | some ds => some (.agg ds)
   | none => none
 | n + 1, .p j 0 => match lk j o with
   | some (.box e cells) => match cells with
     | [c] => if aggT P e then match viewN P o n c with
      | some x => if x.isAgg then none else some (.ptr (.agg [x]))
      | none => none
       else match viewN P o n c with
        | some x => if x.isAgg then none else some (.ptr x)
        | none => none
     | _ => match viewC o cells with
       | some ds => if aggT P e then some (.ptr (.agg ds)) else none
       | none => none
   | some (.arv _ _ es) => some (.ptr (.agg (flat es)))
   | _ => none
 | n + 1, .fn f cs => match cs with
   | [] => some (.fn f [] [])
   | [c] => match viewN P o n c with
     | some x => some (.fn f [] [x])
     | none => none
   | [c, c'] => match viewN P o n c, viewN P o n c' with
     | some x,some y => some (.fn f [] [x,y])
     | _,_ => none
   | [c, c', c''] => match viewN P o n c, viewN P o n c', viewN P o n c'' with
     | some x,some y,some z => some (.fn f [] [x,y,z])
     | _,_,_ => none
   | _ => none
 | _ + 1,_ => none
def view (P : Program) (o : List (Nat × AO)) (av : AV) : Option D:=viewN P o 4 av
def views (P : Program) (o : List (Nat × AO)) : List AV->Option (List D)
 | [] => some []
 | x :: r => match view P o x, views P o r with
   | some y,some ys => some (y :: ys)
   | _,_ => none

section
variable {P : Program} {Z : Nat->Prop} {β : Nat->Value} {φ : Nat->Nat->Prop} {N B : Nat} {M : Nat->Prop} {w0 : World} {st : St} {a : Act} {w : World}

theorem Rd.any {S w x v} (h : Rd S w x v) : Rd (fun _ => True) w x v:=h.weaken fun _ _ => trivial

theorem viewC_spec {F S' : Nat->Prop} {ob : List (Nat × AO)} (hobj : ∀ j o,lk j ob=some o->OK β F w o (β j) (φ j)) (hF : ∀ g,F g->S' g) (hB : ∀ j o g,lk j ob=some o->φ j g->S' g) :
 ∀ {cs : List AV} {vs : List Value} {ds},vs.length=cs.length->(∀ i,i < cs.length->Rel β F w (cs.getD i .undef) (vs.getD i Go.undef))->viewC ob cs=some ds->vs.length=ds.length∧∀ i,i < ds.length->Rd S' w (ds.getD i .nilptr) (vs.getD i Go.undef)
 | [],vs,ds,hl,_,hq => by simp [viewC] at hq; subst hq; simp at hl; simp [hl]
 | .d x :: r, vs, ds, hl, hr, hq => by
   simp only [viewC] at hq
   split at hq
   . rename_i xs hx
     cases hq
     cases vs with
     | nil => simp at hl
     | cons v vs =>
       obtain ⟨h1,h2⟩:=viewC_spec hobj hF hB (cs:=r) (vs:=vs) (by simpa using hl) (fun i hi => by simpa using hr (i + 1) (by simpa using hi)) hx
       refine ⟨by simp [h1],fun i hi => ?_⟩
       cases i with
       | zero =>
         have h0 : Rel β F w (.d x) v:=by simpa using hr 0 (by simp)
         cases h0 with | d h0 => exact h0.weaken hF
       | succ i => simpa using h2 i (by simpa using hi)
   . cases hq
 | .nilS :: r, vs, ds, hl, hr, hq => by
   simp only [viewC] at hq
   split at hq
   . rename_i xs hx
     cases hq
     cases vs with
     | nil => simp at hl
     | cons v vs =>
       obtain ⟨h1,h2⟩:=viewC_spec hobj hF hB (cs:=r) (vs:=vs) (by simpa using hl) (fun i hi => by simpa using hr (i + 1) (by simpa using hi)) hx
       refine ⟨by simp [h1],fun i hi => ?_⟩
       cases i with
       | zero =>
         have h0 : Rel β F w .nilS v:=by simpa using hr 0 (by simp)
         cases h0; exact .nil _
       | succ i => simpa using h2 i (by simpa using hi)
   . cases hq
 | .sl j :: r, vs, ds, hl, hr, hq => by
   simp only [viewC] at hq
   split at hq
   . rename_i es xs hj hx
     cases hq
     obtain ⟨o,ho,hrow⟩:=Option.bind_eq_some_iff.1 hj
     cases vs with
     | nil => simp at hl
     | cons v vs =>
       obtain ⟨h1,h2⟩:=viewC_spec hobj hF hB (cs:=r) (vs:=vs) (by simpa using hl) (fun i hi => by simpa using hr (i + 1) (by simpa using hi)) hx
       refine ⟨by simp [h1],fun i hi => ?_⟩
       cases i with
       | zero =>
         have h0 : Rel β F w (.sl j) v:=by simpa using hr 0 (by simp)
         cases h0
         exact rd_of_row (hobj j _ ho) hrow (fun g hg _ => hF g hg) fun g hg => hB j _ g ho hg
       | succ i => simpa using h2 i (by simpa using hi)
   . cases hq
 | .undef :: r,_,_,_,_,hq => by simp [viewC] at hq
 | .p _ _ :: r,_,_,_,_,hq => by simp [viewC] at hq
 | .pe _ _ _ _ :: r,_,_,_,_,hq => by simp [viewC] at hq
 | .mq _ :: r,_,_,_,_,hq => by simp [viewC] at hq
 | .sf _ _ _ :: r,_,_,_,_,hq => by simp [viewC] at hq
 | .vw _ _ _ _ :: r,_,_,_,_,hq => by simp [viewC] at hq
 | .pv _ _ _ _ _ :: r,_,_,_,_,hq => by simp [viewC] at hq
 | .tup _ :: r,_,_,_,_,hq => by simp [viewC] at hq
 | .fn _ _ :: r,_,_,_,_,hq => by simp [viewC] at hq
 | .e0 :: r,_,_,_,_,hq => by simp [viewC] at hq
 | .hdr _ _ :: r,_,_,_,_,hq => by simp [viewC] at hq
 | .st _ :: r,_,_,_,_,hq => by simp [viewC] at hq

theorem viewN_spec' {F S' : Nat->Prop} {ob : List (Nat × AO)} (hobj : ∀ j o,lk j ob=some o->OK β F w o (β j) (φ j)) (hF : ∀ g,F g->S' g) (hB : ∀ j o g,lk j ob=some o->φ j g->S' g) :
 ∀ {n av v x},Rel β F w av v->viewN P ob n av=some x->Rd S' w x v
 | 0,_,_,_,_,hq => by simp [viewN] at hq
 | n + 1, av, v, x, hv, hq => by
   cases av with
   | d y => simp only [viewN,Option.some.injEq] at hq; subst hq; cases hv with | d hr => exact hr.weaken hF
   | sl j =>
     simp only [viewN] at hq
     split at hq
     . rename_i ob' hj
       split at hq
       . rename_i es hrow
         cases hq
         cases hv
         exact rd_of_row (hobj j _ hj) hrow (fun g hg _ => hF g hg) fun g hg => hB j _ g hj hg
       . cases hq
     . cases hq
   | st cs =>
     simp only [viewN] at hq
     split at hq
     . rename_i ds hds
       cases hq
       cases hv with
       | st hl hr =>
         obtain ⟨h1,h2⟩:=viewC_spec hobj hF hB hl hr hds
         exact .agg h1 h2
     . cases hq
   | p j off =>
     cases off with
     | succ o => simp [viewN] at hq
     | zero =>
       simp only [viewN] at hq
       split at hq
       . rename_i e cells hj
         have hO:=hobj j _ hj
         cases hv with
         | p hβ =>
           rename_i b nn cp
           have hb : ownS (.slice (some ⟨b,0,none⟩) nn cp) b:=rfl
           have hBj:=fun g => hB j _ g hj
           rw [hβ] at hO
           cases hO with
           | box hFo xs hne hw hr =>
             have hb : S' b:=hBj b (by rw [hFo]; exact hb)
             have hxl : xs.length=cells.length:=by simpa using hw.1
             have one : ∀ {c y},cells=[c]->viewN P ob n c=some y->y.isAgg=false->Rd S' w y (xs.getD 0 Go.undef)∧w.cell? ⟨b,0 + 0,none⟩=some (xs.getD 0 Go.undef):=by
              intro c y hc hy _
              subst hc
              exact ⟨viewN_spec' hobj hF hB (by simpa using hr 0 (by simp)) hy,ownsRow_cell hw rfl (by simp at hxl; omega)⟩
             split at hq
             . rename_i c
               split at hq
               . rename_i hag
                 split at hq
                 . rename_i y hy
                   split at hq
                   . cases hq
                   . rename_i hna
                     cases hq
                     obtain ⟨h1,h2⟩:=one rfl hy (by simpa using hna)
                     refine .ptr (fun _ => xs.getD 0 Go.undef) (fun i hi => ⟨hb,?_⟩) fun i hi => ?_
                     . have : i=0:=by simpa [D.cells] using hi
                       subst this; exact h2
                     . have : i=0:=by simpa [D.cells] using hi
                       subst this; simpa [D.cells] using h1
                 . cases hq
               . split at hq
                 . rename_i y hy
                   split at hq
                   . cases hq
                   . rename_i hna
                     cases hq
                     have hna : y.isAgg=false:=by simpa using hna
                     obtain ⟨h1,h2⟩:=one rfl hy hna
                     refine .ptr (fun _ => xs.getD 0 Go.undef) (fun i hi => ⟨hb,?_⟩) fun i hi => ?_
                     . rw [cells_one hna] at hi
                       have : i=0:=by simpa using hi
                       subst this; exact h2
                     . rw [cells_one hna] at hi ⊢
                       have : i=0:=by simpa using hi
                       subst this; simpa using h1
                 . cases hq
             . split at hq
               . rename_i ds hds
                 split at hq
                 . cases hq
                   obtain ⟨h1,h2⟩:=viewC_spec hobj hF hB hxl hr hds
                   refine .ptr (fun i => xs.getD i Go.undef) (fun i hi => ⟨hb,?_⟩) fun i hi => ?_
                   . simp only [D.cells] at hi
                     rw [Nat.zero_add]; exact ownsRow_cell hw rfl (by omega)
                   . simp only [D.cells] at hi ⊢
                     exact h2 i hi
                 . cases hq
               . cases hq
       . rename_i e k es hj
         cases hq
         have hO:=hobj j _ hj
         cases hv with
         | p hβ =>
           rename_i b nn cp
           have hb : ownS (.slice (some ⟨b,0,none⟩) nn cp) b:=rfl
           have hBj:=fun g => hB j _ g hj
           rw [hβ] at hO
           cases hO with
           | arv hFo xs hne hk0 hk hw hr =>
             have hb : S' b:=hBj b (by rw [hFo]; exact hb)
             have hxl : xs.length=(flat es).length:=by simpa using hw.1
             refine .ptr (fun i => xs.getD i Go.undef) (fun i hi => ⟨hb,?_⟩) fun i hi => ?_
             . simp only [D.cells] at hi
               rw [Nat.zero_add]; exact ownsRow_cell hw rfl (by omega)
             . simp only [D.cells] at hi ⊢
               exact (hr i hi).weaken hF
       . cases hq
   | fn f cs =>
     cases hv with
     | fn hl hr =>
       rename_i us
       simp only [viewN] at hq
       split at hq
       . cases hq
         have : us=[]:=List.eq_nil_of_length_eq_zero hl
         subst this
         exact Rd.fn (first:=[]) (caps:=[]) (vs:=[]) (us:=[]) rfl rfl (by simp) (by simp)
       . split at hq
         . rename_i y hy
           cases hq
           have h0:=viewN_spec' hobj hF hB (by simpa using hr 0 (by simp)) hy
           refine Rd.fn (first:=[]) (caps:=[y]) (vs:=[]) rfl (by simpa using hl) (by simp) fun i hi => ?_
           have : i=0:=by simpa using hi
           subst this; simpa using h0
         . cases hq
       . split at hq
         . rename_i y z hy hz
           cases hq
           have h0:=viewN_spec' hobj hF hB (by simpa using hr 0 (by simp)) hy
           have h1:=viewN_spec' hobj hF hB (by simpa using hr 1 (by simp)) hz
           refine Rd.fn (first:=[]) (caps:=[y,z]) (vs:=[]) rfl (by simpa using hl) (by simp) fun i hi => ?_
           match i,hi with
           | 0,_ => simpa using h0
           | 1,_ => simpa using h1
         . cases hq
       . split at hq
         . rename_i y z u hy hz hu
           cases hq
           have h0:=viewN_spec' hobj hF hB (by simpa using hr 0 (by simp)) hy
           have h1:=viewN_spec' hobj hF hB (by simpa using hr 1 (by simp)) hz
           have h2:=viewN_spec' hobj hF hB (by simpa using hr 2 (by simp)) hu
           refine Rd.fn (first:=[]) (caps:=[y,z,u]) (vs:=[]) rfl (by simpa using hl) (by simp) fun i hi => ?_
           match i,hi with
           | 0,_ => simpa using h0
           | 1,_ => simpa using h1
           | 2,_ => simpa using h2
         . cases hq
       . cases hq
   | undef => simp [viewN] at hq
   | pe j k i o => simp [viewN] at hq
   | tup xs => simp [viewN] at hq
   | e0 => simp [viewN] at hq
   | hdr j u => simp [viewN] at hq
   | mq j => simp [viewN] at hq
   | sf j k l => simp [viewN] at hq
   | vw j q n k => simp [viewN] at hq
   | pv j q k i fo => simp [viewN] at hq
   | nilS => simp only [viewN,Option.some.injEq] at hq; subst hq; cases hv; exact .nil _

theorem viewN_spec (h : SimB Z β φ N B M w0 st a w) {n av v x} (hv : Rel β (free Z φ st.o) w av v) (hq : viewN P st.o n av=some x) : Rd (fun _ => True) w x v :=
 viewN_spec' (fun j o hj => h.objs j o hj) (fun _ _ => trivial) (fun _ _ _ _ _ => trivial) hv hq

theorem views_spec (h : SimB Z β φ N B M w0 st a w) : ∀ {avs : List AV} {vs : List Value} {xs},vs.length=avs.length->(∀ i,i < avs.length->Rel β (free Z φ st.o) w (avs.getD i .undef) (vs.getD i Go.undef))->views P st.o avs=some xs ->
 vs.length=xs.length∧∀ i,i < xs.length->Rd (fun _ => True) w (xs.getD i .nilptr) (vs.getD i Go.undef)
 | [],vs,xs,hl,_,hq => by simp [views] at hq; subst hq; simp at hl; simp [hl]
 | x :: r, vs, xs, hl, hr, hq => by
   simp only [views] at hq
   split at hq
   . rename_i y ys h1 h2
     cases hq
     cases vs with
     | nil => simp at hl
     | cons v vs =>
       obtain ⟨h3,h4⟩:=views_spec h (avs:=r) (vs:=vs) (by simpa using hl) (fun i hi => by simpa using hr (i + 1) (by simpa using hi)) h2
       refine ⟨by simp [h3],fun i hi => ?_⟩
       cases i with
       | zero => simpa using viewN_spec h (by simpa using hr 0 (by simp)) h1
       | succ i => simpa using h4 i (by simpa using hi)
   . cases hq
end

def datas : List AV->Option (List D)
 | [] => some []
 | .d x :: r => match datas r with
   | some xs => some (x :: xs)
   | none => none
 | .nilS :: r => match datas r with
   | some xs => some (.slice [] :: xs)
   | none => none
 | _ :: _ => none

def dstB (N : Nat) (dst : Option Nat) : Prop :=
 match dst with
 | some d => d < N
 | none => True

def passM (P : Program) (ob : List (Nat × AO)) (κ : Nat->Nat) (sh : Bool) : List AV->List AV->Prop
 | [],[] => True
 | c :: cs,v :: vs => (c=v.ren κ∨(sh=false∧∃ x,view P ob c=some x∧v=.d x))∧passM P ob κ sh cs vs
 | _,_ => False
def delL {α : Type} : List Nat->List (Nat × α)->List (Nat × α)
 | [],l => l
 | k :: r,l => del k (delL r l)
theorem lk_delL {α : Type} {i : Nat} {x : α} : ∀ {ks : List Nat} {l : List (Nat × α)},lk i (delL ks l)=some x->i ∉ ks∧lk i l=some x
 | [],l,h => ⟨by simp,h⟩
 | k :: r, l, h => by
   simp only [delL] at h
   rw [lk_del] at h
   split at h
   . cases h
   . rename_i e
     obtain ⟨h1,h2⟩:=lk_delL h
     exact ⟨by simp; exact ⟨e,h1⟩,h2⟩
def objsM (st : St) (κ : Nat->Nat) : List (Nat × AO)->Prop
 | [] => True
 | (j,o) :: r => lkn (κ j) st.o=some (o.ren κ)∧objsM st κ r
def nth : List Nat->Nat->Nat
 | [],_ => 0
 | x :: _,0 => x
 | _ :: r,n + 1 => nth r n
def keysO : List (Nat × AO)->List Nat
 | [] => []
 | (k,_) :: r => k :: keysO r
def namesOK (κ ρ ks keep oi oo : List Nat) : Bool :=
 (keep.all fun j => oi.contains j && oo.contains j && nth ρ j == nth κ j && !ks.contains (nth κ j)) && (oi.all fun j => keep.contains j || ks.contains (nth κ j)) && (oo.all fun j => keep.contains j || ks.contains (nth ρ j)) &&
  (oo.all fun i => oo.all fun j => i == j || nth ρ i != nth ρ j) && (oi.all fun i => oi.all fun j => i == j || nth κ i != nth κ j)
def namesI (κ oi : List Nat) : Bool:=oi.all fun i => oi.all fun j => i == j || nth κ i != nth κ j
theorem namesI_of {κ ρ ks keep oi oo} (h : namesOK κ ρ ks keep oi oo=true) : namesI κ oi=true:=by
 simp only [namesOK,Bool.and_eq_true] at h; exact h.2
def callMut (P : Program) (N : Nat) (st : St) (dst : Option Nat) (f : FuncId) (cavs : List AV) (K : St->Prop) : Prop :=
 ∃ (κ ρ ks : List Nat) (avs : List AV) (oi : List (Nat × AO)) (keep : List Nat) (sh : Bool) (R : AV->List (Nat × AO)->Prop),CtrR P f avs oi keep sh R∧passM P (delL ((keysO oi).map (nth κ)) st.o) (nth κ) sh cavs avs∧objsM st (nth κ) oi ∧
  namesI κ (keysO oi)=true∧dstB N dst∧∀ res oo,R res oo->namesOK κ ρ ks keep (keysO oi) (keysO oo)=true∧K (impM st dst (nth ρ) ks res oo)
theorem mem_keysO {j : Nat} : ∀ {l : List (Nat × AO)},(lk j l).isSome=true->j ∈ keysO l
 | (k, v) :: r, h => by
   simp only [lk] at h
   simp only [keysO,List.mem_cons]
   split at h
   . rename_i e; exact .inl e
   . exact .inr (mem_keysO h)
theorem of_keysO {j : Nat} : ∀ {l : List (Nat × AO)},j ∈ keysO l->(lk j l).isSome=true
 | (k, v) :: r, h => by
   simp only [lk]
   split
   . rfl
   . rename_i e
     simp only [keysO,List.mem_cons] at h
     exact of_keysO (h.resolve_left e)
theorem objsM_lk {st : St} {κ : Nat->Nat} {j : Nat} : ∀ {l : List (Nat × AO)} {o},objsM st κ l->lk j l=some o->lk (κ j) st.o=some (o.ren κ)∧(o.ren κ).isRes=false
 | (k, v) :: r, o, h, hj => by
   simp only [lk] at hj
   split at hj
   . rename_i e; subst e; cases hj; exact lkn_spec h.1
   . exact objsM_lk h.2 hj
def boundOf : D->Option (FuncId × D)
 | .fn (.func f) [y] [] => some (f,y)
 | _ => none
theorem boundOf_spec {z f y} (h : boundOf z=some (f,y)) : z=.fn (.func f) [y] []:=by
 unfold boundOf at h; split at h
 . cases h; rfl
 . cases h
def callA (P : Program) (N : Nat) (st : St) (dst : Option Nat) (c : Call) (K : St->Prop) : Prop :=
 match c.callee with
 | .value x => match (ev st x).map fnOf, evs st c.args.toList with
   | some (.fn (.func f) caps), some avs =>
     (∃ d sh res oo,dst=some d∧(match (if sh then datas (avs++caps) else views P st.o (avs++caps)) with | some xs => Ctr P f xs sh res oo | none => False)∧d < N∧K (impSt st d (100000 * (d + 1)) res oo)) ∨
      callMut P N st dst f (avs++caps) K
   | some (.d z), some avs => match boundOf z with
     | some (f,y) => ∃ d sh res oo,dst=some d∧(match (if sh then datas (.d y :: avs) else views P st.o (.d y :: avs)) with | some xs => Ctr P f xs sh res oo | none => False)∧d < N∧K (impSt st d (100000 * (d + 1)) res oo)
     | none => False
   | _,_ => False
 | _ => False

def skipV : AV:=.tup []
theorem skip_rel {β S w} : Rel β S w skipV Go.undef:=Rel.tup (xs:=[]) (vs:=[]) rfl (by simp)

def sliceOf (o : List (Nat × AO)) : AV->Option (List D)
 | .d (.slice es) => some es
 | .nilS => some []
 | .sl j => (lk j o).bind rowOf
 | _ => none
def nilCmpA (P : Program) (N : Nat) (st : St) (dst : Option Nat) (op : BinOp) (t : TypeId) (x y : Operand) (K : St->Prop) : Prop :=
 match y with
 | .const (.slice none 0 0) => match (ev st x).bind (sliceOf st.o) with
   | some es => (elemSl P t).isSome = true ∧ dstB N dst ∧ ∀ b : Bool, (es ≠ [] -> b = false) -> match op with
     | .eql => K (st.put dst (.d (.bool b)))
     | .neq => K (st.put dst (.d (.bool !b)))
     | _ => False
   | none => False
 | _ => False

def opA (P : Program) (N : Nat) (st : St) (o : Oper) (K : St->Prop) : Prop :=
 match nilA P st o.dst o.op o.type with
 | some (c,st') => c∧dstB N o.dst∧K st'
 | none => match qv P st o.op with
   | some (c,av) => c∧dstB N o.dst∧K (st.put o.dst av)
   | none => match lv P st o.dst o.op o.type with
     | some (c,st') => c∧dstB N o.dst∧K st'
     | none => match o.op with
       | .call c => callA P N st o.dst c K
       | .binOp op t x y _ => nilCmpA P N st o.dst op t x y K
       | _ => False

def guardA (ops : List Oper) (st : St) (o : Oper) (run skip : Prop) : Prop :=
 match o.guard with
 | none => run
 | some (j, want) => match (ops[j]?).bind (·.dst) with
   | some d => match lk d st.s with
     | some (.d (.bool b)) => (b=want->run)∧(b ≠ want->skip)
     | some (.tup _) => skip
     | _ => False
   | none => False

def stepA (P : Program) (N : Nat) (ops : List Oper) (st : St) (o : Oper) (K : St->Prop) : Prop :=
 guardA ops st o (opA P N st o K) (dstB N o.dst∧K (st.put o.dst skipV))

def opsA (P : Program) (N : Nat) (ops : List Oper) : List Oper->St->(St->Prop)->Prop
 | [],st,K => K st
 | o :: r,st,K => stepA P N ops st o fun st' => opsA P N ops r st' K

section
variable {P : Program} {Z : Nat->Prop} {β : Nat->Value} {φ : Nat->Nat->Prop} {N B : Nat} {M : Nat->Prop} {w0 : World} {st : St} {a : Act} {w : World}

theorem datas_spec : ∀ {avs xs},datas avs=some xs->xs.length=avs.length∧∀ (β : Nat->Value) S (w : World) i v,i < xs.length->Rel β S w (avs.getD i .undef) v->Rd S w (xs.getD i .nilptr) v
 | [],xs,h => by simp [datas] at h; subst h; simp
 | .d x :: r, xs, h => by
   simp only [datas] at h
   split at h
   . rename_i ys hy
     cases h
     obtain ⟨h1,h2⟩:=datas_spec hy
     refine ⟨by simp [h1],fun β S w i v hi hr => ?_⟩
     cases i with
     | zero => simp only [List.getD_cons_zero] at hr ⊢; cases hr; assumption
     | succ i => simp only [List.getD_cons_succ] at hr ⊢; exact h2 β S w i v (by simpa using hi) hr
   . cases h
 | .nilS :: r, xs, h => by
   simp only [datas] at h
   split at h
   . rename_i ys hy
     cases h
     obtain ⟨h1,h2⟩:=datas_spec hy
     refine ⟨by simp [h1],fun β S w i v hi hr => ?_⟩
     cases i with
     | zero => simp only [List.getD_cons_zero] at hr ⊢; cases hr; exact .nil _
     | succ i => simp only [List.getD_cons_succ] at hr ⊢; exact h2 β S w i v (by simpa using hi) hr
   . cases h
 | .undef :: _,_,h => by simp [datas] at h
 | .sl _ :: _,_,h => by simp [datas] at h
 | .p _ _ :: _,_,h => by simp [datas] at h
 | .pe _ _ _ _ :: _,_,h => by simp [datas] at h
 | .mq _ :: _,_,h => by simp [datas] at h
 | .sf _ _ _ :: _,_,h => by simp [datas] at h
 | .vw _ _ _ _ :: _,_,h => by simp [datas] at h
 | .pv _ _ _ _ _ :: _,_,h => by simp [datas] at h
 | .tup _ :: _,_,h => by simp [datas] at h
 | .fn _ _ :: _,_,h => by simp [datas] at h
 | .e0 :: _,_,h => by simp [datas] at h
 | .hdr _ _ :: _,_,h => by simp [datas] at h
 | .st _ :: _,_,h => by simp [datas] at h

theorem dstB_spec {dst : Option Nat} (h : dstB N dst) : ∀ d,dst=some d->d < N:=fun d e => by subst e; exact h

theorem callA_spec (h : SimB Z β φ N B M w0 st a w) {o : Oper} {c K} (ho : o.op=.call c) (hq : callA P N st o.dst c K) {K' : Act->World->Prop} {Q : Exit->Act->World->Prop}
 (hK : ∀ st' a' w',Sim Z N B M w0 st' a' w'->K st'->K' a' w') : o.wp P a w K' Q:=by
 unfold callA at hq
 split at hq
 . rename_i x hcal
   split at hq
   . rename_i f caps avs hx havs
     obtain ⟨e1,e2⟩:=evs_spec h havs
     have e1' : c.args.size=avs.length:=by simpa using e1
     obtain ⟨av0,hx,hav0⟩:=Option.map_eq_some_iff.1 hx
     have hfn:=fnOf_rel (ev_spec h hx)
     rw [hav0] at hfn
     -- the values
     have hargs : ∃ us : List Value,a.eval x=.func (.func f) #[] us.toArray∧us.length=caps.length∧∀ i,i < caps.length->Rel β (free Z φ st.o) w (caps.getD i .undef) (us.getD i Go.undef):=by
      generalize a.eval x=v at *
      cases hfn with
      | fn hl hr => exact ⟨_,rfl,hl,hr⟩
     obtain ⟨us,hev,hul,hur⟩:=hargs
     have hvs : ((c.args.toList.map a.eval)++us).length=(avs++caps).length:=by simp [hul]; omega
     have hrel : ∀ i,i < (avs++caps).length->Rel β (free Z φ st.o) w ((avs++caps).getD i .undef) (((c.args.toList.map a.eval)++us).getD i Go.undef):=fun i hi => by
      by_cases hlt : i < avs.length
      . have:=e2 i hlt
        simp only [List.getD_eq_getElem?_getD] at this ⊢
        rwa [List.getElem?_append_left hlt,List.getElem?_append_left (by simp; omega)]
      . have:=hur (i - avs.length) (by simp at hi; omega)
        simp only [List.getD_eq_getElem?_getD] at this ⊢
        rw [List.getElem?_append_right (by omega),List.getElem?_append_right (by simp; omega)]
        simpa [e1] using this
     have harr : (c.args.map a.eval)++us.toArray=((c.args.toList.map a.eval)++us).toArray:=by cases c.args; simp
     have hrun : Enters P f->(execOp a.eval o).run P w=.ok (.enter f ((c.args.toList.map a.eval)++us).toArray) w:=by
      rintro ⟨fn,hf1,hf2,hf3⟩
      simp only [execOp,ho,resolve,hcal,Sem.run_bind,hev,Deferred.ofValue,Sem.run_pure,Result.andThen_ok,invoke,callFunc,program,Array.empty_append,harr,Sem.run,hf1,hf2,hf3]
      rfl
     rcases hq with ⟨d,sh,res,oo,hdst,hq,hd,hk⟩ | ⟨κ,ρ,ks,mavs,oi,keep,sh,R,hq,hpass,hobjs,hni,hdd,hKR⟩
     . split at hq
       . rename_i xs hxs
         obtain ⟨hent,hspec⟩:=hq
         have hcalls : ∃ S : Nat->Prop,(∀ g,free Z φ st.o g->S g)∧(∀ g,(w.heap.size<=g∨(sh=true∧S g))->w.heap.size<=g∨free Z φ st.o g)∧((c.args.toList.map a.eval)++us).length=xs.length ∧
          ∀ i,i < xs.length->Rd S w (xs.getD i .nilptr) (((c.args.toList.map a.eval)++us).getD i Go.undef):=by
          cases sh with
          | false =>
            simp only [Bool.false_eq_true,if_false] at hxs
            obtain ⟨h1,h2⟩:=views_spec h hvs hrel hxs
            exact ⟨fun _ => True,fun _ _ => trivial,fun g hg => .inl (by simpa using hg),h1,h2⟩
          | true =>
            simp only [if_true] at hxs
            obtain ⟨h1,h2⟩:=datas_spec hxs
            exact ⟨free Z φ st.o,fun _ h => h,fun g hg => by simpa using hg,by rw [hvs,h1],fun i hi => h2 _ _ _ i _ hi (hrel i (by rw [← h1]; exact hi))⟩
         obtain ⟨S,hSG,hS,hl,hr⟩:=hcalls
         have hc:=hspec S w _ hl hr (h.gsM (fun _ h => h.elim) hSG)
         unfold Oper.wp
         rw [hrun hent,Oper.upon_enter]
         refine hc.mono fun e w' ⟨v,he,hfr,hres⟩ => ?_
         subst he
         refine hK _ _ _ ?_ hk
         rw [hdst]
         exact h.imp hfr hres hS hd
       . exact hq.elim
     . obtain ⟨hent,hspec⟩:=hq
       have hn5:=hni
       simp only [namesI,List.all_eq_true,Bool.or_eq_true,beq_iff_eq,bne_iff_ne,ne_eq] at hn5
       have hlko : ∀ {j ob},lk j oi=some ob->lk (nth κ j) st.o=some (ob.ren (nth κ)):=fun hj => (objsM_lk hobjs hj).1
       have hblk : ∀ g,free Z φ st.o g->∀ j ob,lk j oi=some ob->ob.isRes=false->¬ φ (nth κ j) g:=fun g hg j ob hj _ => hg.2 _ _ (hlko hj) (objsM_lk hobjs hj).2
       let S : Nat->Prop:=if sh then free Z φ st.o else fun _ => True
       have hSF : ∀ g,free Z φ st.o g->free S (fun j => φ (nth κ j)) oi g:=fun g hg => by
        refine ⟨?_,hblk g hg⟩
        show (if sh then free Z φ st.o else fun _ => True) g
        cases sh
        . trivial
        . exact hg
       have hargsR : ∀ (cs vs : List AV) (us : List Value),passM P (delL ((keysO oi).map (nth κ)) st.o) (nth κ) sh cs vs->us.length=cs.length ->
        (∀ i,i < cs.length->Rel β (free Z φ st.o) w (cs.getD i .undef) (us.getD i Go.undef)) ->
        us.length=vs.length∧∀ i,i < vs.length->Rel (fun j => β (nth κ j)) (free S (fun j => φ (nth κ j)) oi) w (vs.getD i .undef) (us.getD i Go.undef):=by
        intro cs
        induction cs with
        | nil =>
          intro vs us hp hl _
          cases vs with
          | nil => exact ⟨hl,fun i hi => by simp at hi⟩
          | cons v vs => exact hp.elim
        | cons cx cs ih =>
          intro vs us hp hl hr
          cases vs with
          | nil => exact hp.elim
          | cons v vs =>
            cases us with
            | nil => simp at hl
            | cons u us =>
              obtain ⟨h1,h2⟩:=ih vs us hp.2 (by simpa using hl) fun i hi => by simpa using hr (i + 1) (by simpa using hi)
              refine ⟨by simp [h1],fun i hi => ?_⟩
              cases i with
              | succ i => simpa using h2 i (by simpa using hi)
              | zero =>
                have h0 : Rel β (free Z φ st.o) w cx u:=by simpa using hr 0 (by simp)
                simp only [List.getD_cons_zero]
                rcases hp.1 with e | ⟨e,x,hx,rfl⟩
                . rw [e] at h0
                  exact (h0.unren).move fun g hg _ => ⟨hSF g hg,rfl⟩
                . subst e
                  refine .d (viewN_spec' (ob:=delL ((keysO oi).map (nth κ)) st.o) (fun j o hj => h.objs j o (lk_delL hj).2) hSF (fun j o g hj hg => ?_) h0 hx)
                  obtain ⟨h3,h4⟩:=lk_delL hj
                  refine ⟨trivial,fun i ob hi _ hgi => h3 ?_⟩
                  have:=h.disj j (nth κ i) _ _ g h4 (hlko hi) hg hgi
                  rw [this]
                  exact List.mem_map.2 ⟨i,mem_keysO (by rw [hi]; rfl),rfl⟩
       obtain ⟨hl,hr⟩:=hargsR _ _ _ hpass hvs hrel
       have hoks : ∀ j ob,lk j oi=some ob->OK (fun j => β (nth κ j)) (free S (fun j => φ (nth κ j)) oi) w ob (β (nth κ j)) (φ (nth κ j)):=fun j ob hj =>
        ((h.objs _ _ (hlko hj)).unren).move (fun g hg _ => ⟨hSF g hg,rfl⟩) (Nat.le_refl _) fun _ _ => rfl
       have hdj : ∀ j j' ob ob' g,lk j oi=some ob->lk j' oi=some ob'->φ (nth κ j) g->φ (nth κ j') g->j=j':=fun j j' ob ob' g hj hj' hg hg' => by
        have e:=h.disj _ _ _ _ g (hlko hj) (hlko hj') hg hg'
        exact (hn5 j (mem_keysO (by rw [hj]; rfl)) j' (mem_keysO (by rw [hj']; rfl))).resolve_right fun hne => hne e
       have hc:=hspec S (fun j => β (nth κ j)) (fun j => φ (nth κ j)) w _ hl hr hoks hdj (h.gsM (fun g ⟨j,ob,hj,hg⟩ => h.own _ _ g (hlko hj) hg) fun g hg => (hSF g hg).1)
       unfold Oper.wp
       rw [hrun hent,Oper.upon_enter]
       refine hc.mono fun e w' ⟨v,res,oo,he,hR,hfr,hres⟩ => ?_
       subst he
       obtain ⟨hnm,hk⟩:=hKR res oo hR
       simp only [namesOK,Bool.and_eq_true,List.all_eq_true,Bool.or_eq_true,List.contains_iff_mem,beq_iff_eq,bne_iff_ne,Bool.not_eq_true',ne_eq] at hnm
       obtain ⟨⟨⟨⟨hn1,hn2⟩,hn3⟩,hn4⟩,_⟩:=hnm
       refine hK _ _ _ ?_ hk
       refine h.impM (κ:=nth κ) (fun j ob hj => ⟨_,objsM_lk hobjs hj⟩) hfr hres (fun g hg => hg) (fun g hg => ?_) (fun j hj => ?_) (fun j hj hjk => ?_) (fun j hj hjk => ?_) (fun j j' hj hj' e => ?_) (dstB_spec hdd)
       . by_cases hbo : blocksOf (fun j => φ (nth κ j)) oi g
         . exact .inr (.inl hbo)
         . rcases hg with h1 | h1 | ⟨h1,h2⟩
           . exact .inl h1
           . exact .inr (.inl h1)
           . subst h1
             exact .inr (.inr h2)
       . obtain ⟨⟨⟨h1,h2⟩,h3⟩,h4⟩:=hn1 j hj
         exact ⟨h3,of_keysO h2,by simpa using h4⟩
       . exact (hn2 j (mem_keysO hj)).resolve_left hjk
       . exact (hn3 j (mem_keysO hj)).resolve_left hjk
       . exact (hn4 j (mem_keysO hj) j' (mem_keysO hj')).resolve_right fun hne => hne e
   . rename_i z avs hx havs
     split at hq
     . rename_i f y hz
       have hz':=boundOf_spec hz
       obtain ⟨e1,e2⟩:=evs_spec h havs
       have e1' : c.args.size=avs.length:=by simpa using e1
       obtain ⟨av0,hx,hav0⟩:=Option.map_eq_some_iff.1 hx
       have hfn:=fnOf_rel (ev_spec h hx)
       rw [hav0,hz'] at hfn
       obtain ⟨pv,hev,hpv⟩ : ∃ pv,a.eval x=.func (.func f) #[pv] #[]∧Rel β (free Z φ st.o) w (.d y) pv:=by
        generalize a.eval x=v at *
        cases hfn with
        | d h => cases h with
          | fn hl hl' hr hr' =>
            obtain ⟨pv,rfl⟩:=List.length_eq_one_iff.1 hl
            obtain rfl:=List.eq_nil_of_length_eq_zero hl'
            exact ⟨pv,rfl,.d (by simpa using hr 0 (by simp))⟩
       obtain ⟨vl,hvl⟩ : ∃ vl,vl=pv :: c.args.toList.map a.eval:=⟨_,rfl⟩
       have hvs : vl.length=(AV.d y :: avs).length:=by rw [hvl]; simp; omega
       have hrel : ∀ i,i < (AV.d y :: avs).length->Rel β (free Z φ st.o) w ((AV.d y :: avs).getD i .undef) (vl.getD i Go.undef):=fun i hi => by
        rw [hvl]
        cases i with
        | zero => exact hpv
        | succ i => exact e2 i (by simpa using hi)
       have harr : #[pv]++(c.args.map a.eval)++#[]=vl.toArray:=by rw [hvl]; cases c.args; simp
       have hrun : Enters P f->(execOp a.eval o).run P w=.ok (.enter f vl.toArray) w:=by
        rintro ⟨fn,hf1,hf2,hf3⟩
        simp only [execOp,ho,resolve,hcal,Sem.run_bind,hev,Deferred.ofValue,Sem.run_pure,Result.andThen_ok,invoke,callFunc,program,harr,Sem.run,hf1,hf2,hf3]
        rfl
       obtain ⟨d,sh,res,oo,hdst,hq,hd,hk⟩:=hq
       split at hq
       . rename_i xs hxs
         obtain ⟨hent,hspec⟩:=hq
         have hcalls : ∃ S : Nat->Prop,(∀ g,free Z φ st.o g->S g)∧(∀ g,(w.heap.size<=g∨(sh=true∧S g))->w.heap.size<=g∨free Z φ st.o g)∧vl.length=xs.length ∧
          ∀ i,i < xs.length->Rd S w (xs.getD i .nilptr) (vl.getD i Go.undef):=by
          cases sh with
          | false =>
            simp only [Bool.false_eq_true,if_false] at hxs
            obtain ⟨h1,h2⟩:=views_spec h hvs hrel hxs
            exact ⟨fun _ => True,fun _ _ => trivial,fun g hg => .inl (by simpa using hg),h1,h2⟩
          | true =>
            simp only [if_true] at hxs
            obtain ⟨h1,h2⟩:=datas_spec hxs
            exact ⟨free Z φ st.o,fun _ h => h,fun g hg => by simpa using hg,by rw [hvs,h1],fun i hi => h2 _ _ _ i _ hi (hrel i (by rw [← h1]; exact hi))⟩
         obtain ⟨S,hSG,hS,hl,hr⟩:=hcalls
         have hc:=hspec S w _ hl hr (h.gsM (fun _ h => h.elim) hSG)
         unfold Oper.wp
         rw [hrun hent,Oper.upon_enter]
         refine hc.mono fun e w' ⟨v,he,hfr,hres⟩ => ?_
         subst he
         refine hK _ _ _ ?_ hk
         rw [hdst]
         exact h.imp hfr hres hS hd
       . exact hq.elim
     . exact hq.elim
   . exact hq.elim
 . exact hq.elim

theorem opA_spec (h : Sim Z N B M w0 st a w) {o : Oper} {K} (hq : opA P N st o K) {K' : Act->World->Prop} {Q : Exit->Act->World->Prop}
 (hK : ∀ st' a' w',Sim Z N B M w0 st' a' w'->K st'->K' a' w') : o.wp P a w K' Q:=by
 obtain ⟨β,φ,h⟩:=h
 have fin : ∀ {st'},Done P Z N B M w0 o a w st'->K st'->o.wp P a w K' Q:=by
  rintro st' ⟨n,w',hrun,hr⟩ hk
  unfold Oper.wp
  rw [hrun]
  rcases hr with ⟨v,rfl,hs⟩ | ⟨rfl,hs⟩
  . exact hK _ _ _ hs hk
  . exact hK _ _ _ hs hk
 unfold opA at hq
 split at hq
 . rename_i c st' hn
   exact fin (nilA_spec h (dstB_spec hq.2.1) hn hq.1) hq.2.2
 . split at hq
   . rename_i c av hqv
     obtain ⟨u,h1,h2⟩:=qv_spec h hqv hq.1
     unfold Oper.wp
     rw [h1]
     exact hK _ _ _ ⟨β,φ,h.put (dstB_spec hq.2.1) h2⟩ hq.2.2
   . split at hq
     . rename_i c st' hlv
       exact fin (lv_spec h (dstB_spec hq.2.1) hlv hq.1) hq.2.2
     . split at hq
       . rename_i c hop
         exact callA_spec h hop hq hK
       . rename_i op t x y u hop
         unfold nilCmpA at hq
         split at hq
         . split at hq
           . rename_i es hes
             obtain ⟨hel,hdd,hq⟩:=hq
             obtain ⟨e,he⟩:=Option.isSome_iff_exists.1 hel
             have hu:=elemSl_spec he
             obtain ⟨av,hav,hsl⟩:=Option.bind_eq_some_iff.1 hes
             have hrel:=ev_spec h hav
             have key : ∃ a0 n c,a.eval x=.slice a0 n c∧(es ≠ []->a0.isNone=false):=by
              generalize a.eval x=v at *
              cases av<;>simp only [sliceOf,reduceCtorEq] at hsl
              . rename_i z
                cases z<;>simp only [Option.some.injEq,reduceCtorEq] at hsl
                subst hsl
                cases hrel with
                | d hr => cases hr with
                  | nil a1 => exact ⟨a1,0,0,rfl,fun h => absurd rfl h⟩
                  | slice => exact ⟨_,_,_,rfl,fun _ => rfl⟩
              . rename_i j
                obtain ⟨ob,hj,hrow⟩:=Option.bind_eq_some_iff.1 hsl
                cases hrel
                have hr:=rd_of_row (h.objs j _ hj) hrow (S':=fun _ => True) (fun _ _ _ => trivial) (fun _ _ => trivial)
                generalize β j=v at *
                cases hr with
                | nil a1 => exact ⟨a1,0,0,rfl,fun h => absurd rfl h⟩
                | slice => exact ⟨_,_,_,rfl,fun _ => rfl⟩
              . simp only [Option.some.injEq] at hsl
                subst hsl
                cases hrel
                exact ⟨_,_,_,rfl,fun h => absurd rfl h⟩
             obtain ⟨a0,n,c,hv,hne⟩:=key
             have hq':=hq a0.isNone hne
             cases op<;>simp only at hq'
             . unfold Oper.wp
               have hrun : (execOp a.eval o).run P w=.ok (.value (.bool a0.isNone)) w:=by
                simp only [execOp,hop,hv,show a.eval (.const (.slice none 0 0))=.slice none 0 0 from rfl,eqGuard_at_slice,Sem.run_bind,Sem.run_pure,Result.andThen_ok,Lib.run_eql_slice_nil w t e a0 n c 0 0 hu]
               rw [hrun]
               exact hK _ _ _ ⟨β,φ,h.put (dstB_spec hdd) (.d (.bool _))⟩ hq'
             . unfold Oper.wp
               have hrun : (execOp a.eval o).run P w=.ok (.value (.bool !a0.isNone)) w:=by
                simp only [execOp,hop,hv,show a.eval (.const (.slice none 0 0))=.slice none 0 0 from rfl,eqGuard_at_slice,Sem.run_bind,Sem.run_pure,Result.andThen_ok,run_neq_slice_nil_any w t e a0 n c 0 0 hu]
               rw [hrun]
               exact hK _ _ _ ⟨β,φ,h.put (dstB_spec hdd) (.d (.bool _))⟩ hq'
           . exact hq.elim
         . exact hq.elim
       . exact hq.elim

theorem stepA_spec (h : Sim Z N B M w0 st a w) {l : List Oper} {o : Oper} {K} (hq : stepA P N l st o K) {K' : Act->World->Prop} {Q : Exit->Act->World->Prop}
 (hK : ∀ st' a' w',Sim Z N B M w0 st' a' w'->K st'->K' a' w') :
 if Region.wanted o (yielded l.toArray a.tmps) then o.wp P a w K' Q else K' (a.put o.dst Go.undef) w:=by
 unfold stepA guardA at hq
 have hskip : dstB N o.dst∧K (st.put o.dst skipV)->K' (a.put o.dst Go.undef) w:=by
  rintro ⟨h1,h2⟩
  obtain ⟨β,φ,h⟩:=h
  exact hK _ _ _ ⟨β,φ,h.put (dstB_spec h1) skip_rel⟩ h2
 split at hq
 . rename_i hg
   have : Region.wanted o (yielded l.toArray a.tmps)=true:=by simp [Region.wanted,hg]
   rw [if_pos this]
   exact opA_spec h hq hK
 . rename_i j want hg
   split at hq
   . rename_i d hd
     have hd' : ((l.toArray)[j]?).bind (·.dst)=some d:=by simpa using hd
     obtain ⟨β,φ,hB⟩:=h
     split at hq
     . rename_i b hb
       have hv:=hB.slots d _ hb
       have hdl : d < a.tmps.size:=by
        rcases Nat.lt_or_ge d a.tmps.size with h' | h'
        . exact h'
        . have e : a.tmps.getD d Go.undef=Go.undef:=by simp [Array.getElem?_eq_none h']
          rw [e] at hv
          cases hv with | d hr => cases hr
       have hval : a.tmps[d]? = some (.bool b):=by
        have e : a.tmps.getD d Go.undef=.bool b:=by
         generalize a.tmps.getD d Go.undef=v at *
         cases hv with | d hr => cases hr; rfl
        simp [hdl] at e ⊢; exact e
       have hy : yielded l.toArray a.tmps j=some b:=by simp [yielded,hd,hval]
       by_cases hbw : b=want
       . have : Region.wanted o (yielded l.toArray a.tmps)=true:=by simp [Region.wanted,hg,hy,hbw]
         rw [if_pos this]
         exact opA_spec ⟨β,φ,hB⟩ (hq.1 hbw) hK
       . have : ¬ Region.wanted o (yielded l.toArray a.tmps)=true:=by simp [Region.wanted,hg,hy,hbw]
         rw [if_neg this]
         exact hskip (hq.2 hbw)
     . rename_i xs hb
       have hv:=hB.slots d _ hb
       have hy : yielded l.toArray a.tmps j=none:=by
        simp only [yielded,hd',Option.bind_some]
        cases hh : a.tmps[d]? with
        | none => rfl
        | some v =>
          have e : a.tmps.getD d Go.undef=v:=by simp [hh]
          rw [e] at hv
          cases hv; rfl
       have : ¬ Region.wanted o (yielded l.toArray a.tmps)=true:=by simp [Region.wanted,hg,hy]
       rw [if_neg this]
       exact hskip hq
     . exact hq.elim
   . exact hq.elim
end
end Abs
