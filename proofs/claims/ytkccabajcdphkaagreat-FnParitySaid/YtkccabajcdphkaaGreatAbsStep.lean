/- One operation of a region, abstractly; a contract; and that the machine follows. No condition. -/
import Derived.Test.YtkccabajcdphkaaGreatAbsMut
import Derived.WalkSpells
set_option linter.all false
namespace Abs
open Go Go.RowKit

def Enters (P : Program) (f : FuncId) : Prop := ∃ fn, P.funcs[f]? = some fn ∧ fn.body.isNone = false ∧ (fn.name == "runtime.NumGoroutine") = false

def Ctr (P : Program) (f : FuncId) (xs : List D) (sh : Bool) (res : AV) (oo : List (Nat × AO)) : Prop :=
 Enters P f∧∀ (S : Nat->Prop) (w : World) (vs : List Value),vs.length=xs.length->(∀ i,i < xs.length->Rd S w (xs.getD i .nilptr) (vs.getD i Go.undef)) ->
  Calls P f vs.toArray w fun e w' => ∃ v,e=.returned v∧Fr w.heap.size (fun _ => False) w w'∧zu3 (fun g => w.heap.size<=g∨(sh=true∧S g)) w.heap.size w' res oo v

def CtrM (P : Program) (f : FuncId) (avs : List AV) (oi : List (Nat × AO)) (keep : List Nat) (sh : Bool) (res : AV) (oo : List (Nat × AO)) : Prop :=
 Enters P f∧∀ (S : Nat->Prop) (β : Nat->Value) (φ : Nat->Nat->Prop) (w : World) (vs : List Value),vs.length=avs.length->(∀ i,i < avs.length->Rel β (free S φ oi) w (avs.getD i .undef) (vs.getD i Go.undef)) ->
  (∀ j o,lk j oi=some o->OK β (free S φ oi) w o (β j) (φ j))->(∀ j j' o o' g,lk j oi=some o->lk j' oi=some o'->φ j g->φ j' g->j=j') ->
  Calls P f vs.toArray w fun e w' => ∃ v,e=.returned v∧Fr w.heap.size (xc6 φ oi) w w' ∧
   yr9 (fun g => w.heap.size<=g∨xc6 φ oi g∨(sh=true∧S g)) (fun g => w.heap.size<=g∨xc6 φ oi g) β keep w' res oo v

def CtrR (P : Program) (f : FuncId) (avs : List AV) (oi : List (Nat × AO)) (keep : List Nat) (sh : Bool) (R : AV->List (Nat × AO)->Prop) : Prop :=
 Enters P f∧∀ (S : Nat->Prop) (β : Nat->Value) (φ : Nat->Nat->Prop) (w : World) (vs : List Value),vs.length=avs.length->(∀ i,i < avs.length->Rel β (free S φ oi) w (avs.getD i .undef) (vs.getD i Go.undef)) ->
  (∀ j o,lk j oi=some o->OK β (free S φ oi) w o (β j) (φ j))->(∀ j j' o o' g,lk j oi=some o->lk j' oi=some o'->φ j g->φ j' g->j=j') ->
  Calls P f vs.toArray w fun e w' => ∃ v res oo,e=.returned v∧R res oo∧Fr w.heap.size (xc6 φ oi) w w' ∧
   yr9 (fun g => w.heap.size<=g∨xc6 φ oi g∨(sh=true∧S g)) (fun g => w.heap.size<=g∨xc6 φ oi g) β keep w' res oo v
theorem CtrM.rel {P f avs oi keep sh res oo} (h : CtrM P f avs oi keep sh res oo) : CtrR P f avs oi keep sh fun r o => r=res∧o=oo :=
 ⟨h.1,fun S β φ w vs h1 h2 h3 h4 => (h.2 S β φ w vs h1 h2 h3 h4).mono fun _ _ ⟨v,e,h5,h6⟩ => ⟨v,res,oo,e,⟨rfl,rfl⟩,h5,h6⟩⟩
theorem CtrR.eq {P f avs oi keep sh res oo} (h : CtrR P f avs oi keep sh fun r o => r=res∧o=oo) : CtrM P f avs oi keep sh res oo :=
 ⟨h.1,fun S β φ w vs h1 h2 h3 h4 => (h.2 S β φ w vs h1 h2 h3 h4).mono fun _ _ ⟨v,_,_,e,⟨rfl,rfl⟩,h5,h6⟩ => ⟨v,e,h5,h6⟩⟩

def xn2 (o : List (Nat × AO)) : List AV->Option (List D)
 | [] => some []
 | .d x :: r => match xn2 o r with
   | some xs => some (x :: xs)
   | none => none
 | .nilS :: r => match xn2 o r with
   | some xs => some (.slice [] :: xs)
   | none => none
 | .sl j :: r => match (lk j o).bind zg6, xn2 o r with
   | some es,some xs => some (.slice es :: xs)
   | _,_ => none
 | _ => none
def xi1 (P : Program) (o : List (Nat × AO)) : Nat->AV->Option D
 | 0,_ => none
 | _ + 1,.d x => some x
 | _ + 1,.nilS => some (.slice [])
 | _ + 1, .sl j => match lk j o with
   | some ob => match zg6 ob with
     | some es => some (.slice es)
     | none => none
   | _ => none
 | _ + 1, .st cs => match xn2 o cs with
   | some ds => some (.agg ds)
   | none => none
 | n + 1, .p j 0 => match lk j o with
   | some (.box e cells) => match cells with
     | [c] => if aggT P e then match xi1 P o n c with
      | some x => if x.isAgg then none else some (.ptr (.agg [x]))
      | none => none
       else match xi1 P o n c with
        | some x => if x.isAgg then none else some (.ptr x)
        | none => none
     | _ => match xn2 o cells with
       | some ds => if aggT P e then some (.ptr (.agg ds)) else none
       | none => none
   | some (.arv _ _ es) => some (.ptr (.agg (flat es)))
   | _ => none
 | n + 1, .fn f cs => match cs with
   | [] => some (.fn f [] [])
   | [c] => match xi1 P o n c with
     | some x => some (.fn f [] [x])
     | none => none
   | [c, c'] => match xi1 P o n c, xi1 P o n c' with
     | some x,some y => some (.fn f [] [x,y])
     | _,_ => none
   | [c, c', c''] => match xi1 P o n c, xi1 P o n c', xi1 P o n c'' with
     | some x,some y,some z => some (.fn f [] [x,y,z])
     | _,_,_ => none
   | _ => none
 | _ + 1,_ => none
def view (P : Program) (o : List (Nat × AO)) (av : AV) : Option D:=xi1 P o 4 av
def yb8 (P : Program) (o : List (Nat × AO)) : List AV->Option (List D)
 | [] => some []
 | x :: r => match view P o x, yb8 P o r with
   | some y,some ys => some (y :: ys)
   | _,_ => none

section
variable {P : Program} {Z : Nat->Prop} {β : Nat->Value} {φ : Nat->Nat->Prop} {N B : Nat} {M : Nat->Prop} {w0 : World} {st : St} {a : Act} {w : World}

theorem Rd.any {S w x v} (h : Rd S w x v) : Rd (fun _ => True) w x v:=h.weaken fun _ _ => trivial

theorem xs6 {F S' : Nat->Prop} {ob : List (Nat × AO)} (hobj : ∀ j o,lk j ob=some o->OK β F w o (β j) (φ j)) (hF : ∀ g,F g->S' g) (hB : ∀ j o g,lk j ob=some o->φ j g->S' g) :
 ∀ {cs : List AV} {vs : List Value} {ds},vs.length=cs.length->(∀ i,i < cs.length->Rel β F w (cs.getD i .undef) (vs.getD i Go.undef))->xn2 ob cs=some ds->vs.length=ds.length∧∀ i,i < ds.length->Rd S' w (ds.getD i .nilptr) (vs.getD i Go.undef)
 | [],vs,ds,hl,_,hq => by simp [xn2] at hq; subst hq; simp at hl; simp [hl]
 | .d x :: r, vs, ds, hl, hr, hq => by
   simp only [xn2] at hq
   split at hq
   . rename_i xs hx
     cases hq
     cases vs with
     | nil => simp at hl
     | cons v vs =>
       obtain ⟨h1,h2⟩:=xs6 hobj hF hB (cs:=r) (vs:=vs) (by simpa using hl) (fun i hi => by simpa using hr (i + 1) (by simpa using hi)) hx
       refine ⟨by simp [h1],fun i hi => ?_⟩
       cases i with
       | zero =>
         have h0 : Rel β F w (.d x) v:=by simpa using hr 0 (by simp)
         cases h0 with | d h0 => exact h0.weaken hF
       | succ i => simpa using h2 i (by simpa using hi)
   . cases hq
 | .nilS :: r, vs, ds, hl, hr, hq => by
   simp only [xn2] at hq
   split at hq
   . rename_i xs hx
     cases hq
     cases vs with
     | nil => simp at hl
     | cons v vs =>
       obtain ⟨h1,h2⟩:=xs6 hobj hF hB (cs:=r) (vs:=vs) (by simpa using hl) (fun i hi => by simpa using hr (i + 1) (by simpa using hi)) hx
       refine ⟨by simp [h1],fun i hi => ?_⟩
       cases i with
       | zero =>
         have h0 : Rel β F w .nilS v:=by simpa using hr 0 (by simp)
         cases h0; exact .nil _
       | succ i => simpa using h2 i (by simpa using hi)
   . cases hq
 | .sl j :: r, vs, ds, hl, hr, hq => by
   simp only [xn2] at hq
   split at hq
   . rename_i es xs hj hx
     cases hq
     obtain ⟨o,ho,hrow⟩:=Option.bind_eq_some_iff.1 hj
     cases vs with
     | nil => simp at hl
     | cons v vs =>
       obtain ⟨h1,h2⟩:=xs6 hobj hF hB (cs:=r) (vs:=vs) (by simpa using hl) (fun i hi => by simpa using hr (i + 1) (by simpa using hi)) hx
       refine ⟨by simp [h1],fun i hi => ?_⟩
       cases i with
       | zero =>
         have h0 : Rel β F w (.sl j) v:=by simpa using hr 0 (by simp)
         cases h0
         exact xw4 (hobj j _ ho) hrow (fun g hg _ => hF g hg) fun g hg => hB j _ g ho hg
       | succ i => simpa using h2 i (by simpa using hi)
   . cases hq
 | .undef :: r,_,_,_,_,hq => by simp [xn2] at hq
 | .p _ _ :: r,_,_,_,_,hq => by simp [xn2] at hq
 | .pe _ _ _ _ :: r,_,_,_,_,hq => by simp [xn2] at hq
 | .mq _ :: r,_,_,_,_,hq => by simp [xn2] at hq
 | .sf _ _ _ :: r,_,_,_,_,hq => by simp [xn2] at hq
 | .vw _ _ _ _ :: r,_,_,_,_,hq => by simp [xn2] at hq
 | .pv _ _ _ _ _ :: r,_,_,_,_,hq => by simp [xn2] at hq
 | .tup _ :: r,_,_,_,_,hq => by simp [xn2] at hq
 | .fn _ _ :: r,_,_,_,_,hq => by simp [xn2] at hq
 | .e0 :: r,_,_,_,_,hq => by simp [xn2] at hq
 | .hdr _ _ :: r,_,_,_,_,hq => by simp [xn2] at hq
 | .st _ :: r,_,_,_,_,hq => by simp [xn2] at hq

theorem xh6 {F S' : Nat->Prop} {ob : List (Nat × AO)} (hobj : ∀ j o,lk j ob=some o->OK β F w o (β j) (φ j)) (hF : ∀ g,F g->S' g) (hB : ∀ j o g,lk j ob=some o->φ j g->S' g) :
 ∀ {n av v x},Rel β F w av v->xi1 P ob n av=some x->Rd S' w x v
 | 0,_,_,_,_,hq => by simp [xi1] at hq
 | n + 1, av, v, x, hv, hq => by
   cases av with
   | d y => simp only [xi1,Option.some.injEq] at hq; subst hq; cases hv with | d hr => exact hr.weaken hF
   | sl j =>
     simp only [xi1] at hq
     split at hq
     . rename_i ob' hj
       split at hq
       . rename_i es hrow
         cases hq
         cases hv
         exact xw4 (hobj j _ hj) hrow (fun g hg _ => hF g hg) fun g hg => hB j _ g hj hg
       . cases hq
     . cases hq
   | st cs =>
     simp only [xi1] at hq
     split at hq
     . rename_i ds hds
       cases hq
       cases hv with
       | st hl hr =>
         obtain ⟨h1,h2⟩:=xs6 hobj hF hB hl hr hds
         exact .agg h1 h2
     . cases hq
   | p j off =>
     cases off with
     | succ o => simp [xi1] at hq
     | zero =>
       simp only [xi1] at hq
       split at hq
       . rename_i e cells hj
         have hO:=hobj j _ hj
         cases hv with
         | p hβ =>
           rename_i b nn cp
           have hb : ownS (.slice (some ⟨b,0,none⟩) nn cp) b:=rfl
           have hBj:=fun g => hB j _ g hj
           rw [hβ] at hO
           cases hO with
           | box hFo xs hne hw hr =>
             have hb : S' b:=hBj b (by rw [hFo]; exact hb)
             have hxl : xs.length=cells.length:=by simpa using hw.1
             have one : ∀ {c y},cells=[c]->xi1 P ob n c=some y->y.isAgg=false->Rd S' w y (xs.getD 0 Go.undef)∧w.cell? ⟨b,0 + 0,none⟩=some (xs.getD 0 Go.undef):=by
              intro c y hc hy _
              subst hc
              exact ⟨xh6 hobj hF hB (by simpa using hr 0 (by simp)) hy,xc3 hw rfl (by simp at hxl; omega)⟩
             split at hq
             . rename_i c
               split at hq
               . rename_i hag
                 split at hq
                 . rename_i y hy
                   split at hq
                   . cases hq
                   . rename_i hna
                     cases hq
                     obtain ⟨h1,h2⟩:=one rfl hy (by simpa using hna)
                     refine .ptr (fun _ => xs.getD 0 Go.undef) (fun i hi => ⟨hb,?_⟩) fun i hi => ?_
                     . have : i=0:=by simpa [D.cells] using hi
                       subst this; exact h2
                     . have : i=0:=by simpa [D.cells] using hi
                       subst this; simpa [D.cells] using h1
                 . cases hq
               . split at hq
                 . rename_i y hy
                   split at hq
                   . cases hq
                   . rename_i hna
                     cases hq
                     have hna : y.isAgg=false:=by simpa using hna
                     obtain ⟨h1,h2⟩:=one rfl hy hna
                     refine .ptr (fun _ => xs.getD 0 Go.undef) (fun i hi => ⟨hb,?_⟩) fun i hi => ?_
                     . rw [xr3 hna] at hi
                       have : i=0:=by simpa using hi
                       subst this; exact h2
                     . rw [xr3 hna] at hi ⊢
                       have : i=0:=by simpa using hi
                       subst this; simpa using h1
                 . cases hq
             . split at hq
               . rename_i ds hds
                 split at hq
                 . cases hq
                   obtain ⟨h1,h2⟩:=xs6 hobj hF hB hxl hr hds
                   refine .ptr (fun i => xs.getD i Go.undef) (fun i hi => ⟨hb,?_⟩) fun i hi => ?_
                   . simp only [D.cells] at hi
                     rw [Nat.zero_add]; exact xc3 hw rfl (by omega)
                   . simp only [D.cells] at hi ⊢
                     exact h2 i hi
                 . cases hq
               . cases hq
       . rename_i e k es hj
         cases hq
         have hO:=hobj j _ hj
         cases hv with
         | p hβ =>
           rename_i b nn cp
           have hb : ownS (.slice (some ⟨b,0,none⟩) nn cp) b:=rfl
           have hBj:=fun g => hB j _ g hj
           rw [hβ] at hO
           cases hO with
           | arv hFo xs hne hk0 hk hw hr =>
             have hb : S' b:=hBj b (by rw [hFo]; exact hb)
             have hxl : xs.length=(flat es).length:=by simpa using hw.1
             refine .ptr (fun i => xs.getD i Go.undef) (fun i hi => ⟨hb,?_⟩) fun i hi => ?_
             . simp only [D.cells] at hi
               rw [Nat.zero_add]; exact xc3 hw rfl (by omega)
             . simp only [D.cells] at hi ⊢
               exact (hr i hi).weaken hF
       . cases hq
   | fn f cs =>
     cases hv with
     | fn hl hr =>
       rename_i us
       simp only [xi1] at hq
       split at hq
       . cases hq
         have : us=[]:=List.eq_nil_of_length_eq_zero hl
         subst this
         exact Rd.fn (first:=[]) (caps:=[]) (vs:=[]) (us:=[]) rfl rfl (by simp) (by simp)
       . split at hq
         . rename_i y hy
           cases hq
           have h0:=xh6 hobj hF hB (by simpa using hr 0 (by simp)) hy
           refine Rd.fn (first:=[]) (caps:=[y]) (vs:=[]) rfl (by simpa using hl) (by simp) fun i hi => ?_
           have : i=0:=by simpa using hi
           subst this; simpa using h0
         . cases hq
       . split at hq
         . rename_i y z hy hz
           cases hq
           have h0:=xh6 hobj hF hB (by simpa using hr 0 (by simp)) hy
           have h1:=xh6 hobj hF hB (by simpa using hr 1 (by simp)) hz
           refine Rd.fn (first:=[]) (caps:=[y,z]) (vs:=[]) rfl (by simpa using hl) (by simp) fun i hi => ?_
           match i,hi with
           | 0,_ => simpa using h0
           | 1,_ => simpa using h1
         . cases hq
       . split at hq
         . rename_i y z u hy hz hu
           cases hq
           have h0:=xh6 hobj hF hB (by simpa using hr 0 (by simp)) hy
           have h1:=xh6 hobj hF hB (by simpa using hr 1 (by simp)) hz
           have h2:=xh6 hobj hF hB (by simpa using hr 2 (by simp)) hu
           refine Rd.fn (first:=[]) (caps:=[y,z,u]) (vs:=[]) rfl (by simpa using hl) (by simp) fun i hi => ?_
           match i,hi with
           | 0,_ => simpa using h0
           | 1,_ => simpa using h1
           | 2,_ => simpa using h2
         . cases hq
       . cases hq
   | undef => simp [xi1] at hq
   | pe j k i o => simp [xi1] at hq
   | tup xs => simp [xi1] at hq
   | e0 => simp [xi1] at hq
   | hdr j u => simp [xi1] at hq
   | mq j => simp [xi1] at hq
   | sf j k l => simp [xi1] at hq
   | vw j q n k => simp [xi1] at hq
   | pv j q k i fo => simp [xi1] at hq
   | nilS => simp only [xi1,Option.some.injEq] at hq; subst hq; cases hv; exact .nil _

theorem viewN_spec (h : SimB Z β φ N B M w0 st a w) {n av v x} (hv : Rel β (free Z φ st.o) w av v) (hq : xi1 P st.o n av=some x) : Rd (fun _ => True) w x v :=
 xh6 (fun j o hj => h.objs j o hj) (fun _ _ => trivial) (fun _ _ _ _ _ => trivial) hv hq

theorem yt0 (h : SimB Z β φ N B M w0 st a w) : ∀ {avs : List AV} {vs : List Value} {xs},vs.length=avs.length->(∀ i,i < avs.length->Rel β (free Z φ st.o) w (avs.getD i .undef) (vs.getD i Go.undef))->yb8 P st.o avs=some xs ->
 vs.length=xs.length∧∀ i,i < xs.length->Rd (fun _ => True) w (xs.getD i .nilptr) (vs.getD i Go.undef)
 | [],vs,xs,hl,_,hq => by simp [yb8] at hq; subst hq; simp at hl; simp [hl]
 | x :: r, vs, xs, hl, hr, hq => by
   simp only [yb8] at hq
   split at hq
   . rename_i y ys h1 h2
     cases hq
     cases vs with
     | nil => simp at hl
     | cons v vs =>
       obtain ⟨h3,h4⟩:=yt0 h (avs:=r) (vs:=vs) (by simpa using hl) (fun i hi => by simpa using hr (i + 1) (by simpa using hi)) h2
       refine ⟨by simp [h3],fun i hi => ?_⟩
       cases i with
       | zero => simpa using viewN_spec h (by simpa using hr 0 (by simp)) h1
       | succ i => simpa using h4 i (by simpa using hi)
   . cases hq
end

def xo8 : List AV->Option (List D)
 | [] => some []
 | .d x :: r => match xo8 r with
   | some xs => some (x :: xs)
   | none => none
 | .nilS :: r => match xo8 r with
   | some xs => some (.slice [] :: xs)
   | none => none
 | _ :: _ => none

def dstB (N : Nat) (dst : Option Nat) : Prop :=
 match dst with
 | some d => d < N
 | none => True

def ya7 (P : Program) (ob : List (Nat × AO)) (κ : Nat->Nat) (sh : Bool) : List AV->List AV->Prop
 | [],[] => True
 | c :: cs,v :: vs => (c=v.ren κ∨(sh=false∧∃ x,view P ob c=some x∧v=.d x))∧ya7 P ob κ sh cs vs
 | _,_ => False
def delL {α : Type} : List Nat->List (Nat × α)->List (Nat × α)
 | [],l => l
 | k :: r,l => del k (delL r l)
theorem zh4 {α : Type} {i : Nat} {x : α} : ∀ {ks : List Nat} {l : List (Nat × α)},lk i (delL ks l)=some x->i ∉ ks∧lk i l=some x
 | [],l,h => ⟨by simp,h⟩
 | k :: r, l, h => by
   simp only [delL] at h
   rw [zr8] at h
   split at h
   . cases h
   . rename_i e
     obtain ⟨h1,h2⟩:=zh4 h
     exact ⟨by simp; exact ⟨e,h1⟩,h2⟩
def ys0 (st : St) (κ : Nat->Nat) : List (Nat × AO)->Prop
 | [] => True
 | (j,o) :: r => lkn (κ j) st.o=some (o.ren κ)∧ys0 st κ r
def nth : List Nat->Nat->Nat
 | [],_ => 0
 | x :: _,0 => x
 | _ :: r,n + 1 => nth r n
def xh7 : List (Nat × AO)->List Nat
 | [] => []
 | (k,_) :: r => k :: xh7 r
def xj9 (κ ρ ks keep oi oo : List Nat) : Bool :=
 (keep.all fun j => oi.contains j && oo.contains j && nth ρ j == nth κ j && !ks.contains (nth κ j)) && (oi.all fun j => keep.contains j || ks.contains (nth κ j)) && (oo.all fun j => keep.contains j || ks.contains (nth ρ j)) &&
  (oo.all fun i => oo.all fun j => i == j || nth ρ i != nth ρ j) && (oi.all fun i => oi.all fun j => i == j || nth κ i != nth κ j)
def xs9 (κ oi : List Nat) : Bool:=oi.all fun i => oi.all fun j => i == j || nth κ i != nth κ j
theorem namesI_of {κ ρ ks keep oi oo} (h : xj9 κ ρ ks keep oi oo=true) : xs9 κ oi=true:=by
 simp only [xj9,Bool.and_eq_true] at h; exact h.2
def zt7 (P : Program) (N : Nat) (st : St) (dst : Option Nat) (f : FuncId) (cavs : List AV) (K : St->Prop) : Prop :=
 ∃ (κ ρ ks : List Nat) (avs : List AV) (oi : List (Nat × AO)) (keep : List Nat) (sh : Bool) (R : AV->List (Nat × AO)->Prop),CtrR P f avs oi keep sh R∧ya7 P (delL ((xh7 oi).map (nth κ)) st.o) (nth κ) sh cavs avs∧ys0 st (nth κ) oi ∧
  xs9 κ (xh7 oi)=true∧dstB N dst∧∀ res oo,R res oo->xj9 κ ρ ks keep (xh7 oi) (xh7 oo)=true∧K (impM st dst (nth ρ) ks res oo)
theorem xo6 {j : Nat} : ∀ {l : List (Nat × AO)},(lk j l).isSome=true->j ∈ xh7 l
 | (k, v) :: r, h => by
   simp only [lk] at h
   simp only [xh7,List.mem_cons]
   split at h
   . rename_i e; exact .inl e
   . exact .inr (xo6 h)
theorem zl4 {j : Nat} : ∀ {l : List (Nat × AO)},j ∈ xh7 l->(lk j l).isSome=true
 | (k, v) :: r, h => by
   simp only [lk]
   split
   . rfl
   . rename_i e
     simp only [xh7,List.mem_cons] at h
     exact zl4 (h.resolve_left e)
theorem yk4 {st : St} {κ : Nat->Nat} {j : Nat} : ∀ {l : List (Nat × AO)} {o},ys0 st κ l->lk j l=some o->lk (κ j) st.o=some (o.ren κ)∧(o.ren κ).isRes=false
 | (k, v) :: r, o, h, hj => by
   simp only [lk] at hj
   split at hj
   . rename_i e; subst e; cases hj; exact yx7 h.1
   . exact yk4 h.2 hj
def yf0 (P : Program) (N : Nat) (st : St) (dst : Option Nat) (c : Call) (K : St->Prop) : Prop :=
 match c.callee with
 | .value x => match (ev st x).map fnOf, evs st c.args.toList with
   | some (.fn (.func f) caps), some avs =>
     (∃ d sh res oo,dst=some d∧(match (if sh then xo8 (avs++caps) else yb8 P st.o (avs++caps)) with | some xs => Ctr P f xs sh res oo | none => False)∧d < N∧K (zh7 st d (100000 * (d + 1)) res oo)) ∨
      zt7 P N st dst f (avs++caps) K
   | _,_ => False
 | _ => False

def yj5 : AV:=.tup []
theorem zj8 {β S w} : Rel β S w yj5 Go.undef:=Rel.tup (xs:=[]) (vs:=[]) rfl (by simp)

def ym0 (o : List (Nat × AO)) : AV->Option (List D)
 | .d (.slice es) => some es
 | .nilS => some []
 | .sl j => (lk j o).bind zg6
 | _ => none
def yn7 (P : Program) (N : Nat) (st : St) (dst : Option Nat) (op : BinOp) (t : TypeId) (x y : Operand) (K : St->Prop) : Prop :=
 match y with
 | .const (.slice none 0 0) => match (ev st x).bind (ym0 st.o) with
   | some es => (xd1 P t).isSome = true ∧ dstB N dst ∧ ∀ b : Bool, (es ≠ [] -> b = false) -> match op with
     | .eql => K (st.put dst (.d (.bool b)))
     | .neq => K (st.put dst (.d (.bool !b)))
     | _ => False
   | none => False
 | _ => False

def opA (P : Program) (N : Nat) (st : St) (o : Oper) (K : St->Prop) : Prop :=
 match nilA P st o.dst o.op o.type with
 | some (c,st') => c∧dstB N o.dst∧K st'
 | none => match qv P st o.op with
   | some (c,av) => c∧dstB N o.dst∧K (st.put o.dst av)
   | none => match lv P st o.dst o.op o.type with
     | some (c,st') => c∧dstB N o.dst∧K st'
     | none => match o.op with
       | .call c => yf0 P N st o.dst c K
       | .binOp op t x y _ => yn7 P N st o.dst op t x y K
       | _ => False

def xk4 (ops : List Oper) (st : St) (o : Oper) (run skip : Prop) : Prop :=
 match o.guard with
 | none => run
 | some (j, want) => match (ops[j]?).bind (·.dst) with
   | some d => match lk d st.s with
     | some (.d (.bool b)) => (b=want->run)∧(b ≠ want->skip)
     | some (.tup _) => skip
     | _ => False
   | none => False

def xm2 (P : Program) (N : Nat) (ops : List Oper) (st : St) (o : Oper) (K : St->Prop) : Prop :=
 xk4 ops st o (opA P N st o K) (dstB N o.dst∧K (st.put o.dst yj5))

def opsA (P : Program) (N : Nat) (ops : List Oper) : List Oper->St->(St->Prop)->Prop
 | [],st,K => K st
 | o :: r,st,K => xm2 P N ops st o fun st' => opsA P N ops r st' K

section
variable {P : Program} {Z : Nat->Prop} {β : Nat->Value} {φ : Nat->Nat->Prop} {N B : Nat} {M : Nat->Prop} {w0 : World} {st : St} {a : Act} {w : World}

theorem yh4 : ∀ {avs xs},xo8 avs=some xs->xs.length=avs.length∧∀ (β : Nat->Value) S (w : World) i v,i < xs.length->Rel β S w (avs.getD i .undef) v->Rd S w (xs.getD i .nilptr) v
 | [],xs,h => by simp [xo8] at h; subst h; simp
 | .d x :: r, xs, h => by
   simp only [xo8] at h
   split at h
   . rename_i ys hy
     cases h
     obtain ⟨h1,h2⟩:=yh4 hy
     refine ⟨by simp [h1],fun β S w i v hi hr => ?_⟩
     cases i with
     | zero => simp only [List.getD_cons_zero] at hr ⊢; cases hr; assumption
     | succ i => simp only [List.getD_cons_succ] at hr ⊢; exact h2 β S w i v (by simpa using hi) hr
   . cases h
 | .nilS :: r, xs, h => by
   simp only [xo8] at h
   split at h
   . rename_i ys hy
     cases h
     obtain ⟨h1,h2⟩:=yh4 hy
     refine ⟨by simp [h1],fun β S w i v hi hr => ?_⟩
     cases i with
     | zero => simp only [List.getD_cons_zero] at hr ⊢; cases hr; exact .nil _
     | succ i => simp only [List.getD_cons_succ] at hr ⊢; exact h2 β S w i v (by simpa using hi) hr
   . cases h
 | .undef :: _,_,h => by simp [xo8] at h
 | .sl _ :: _,_,h => by simp [xo8] at h
 | .p _ _ :: _,_,h => by simp [xo8] at h
 | .pe _ _ _ _ :: _,_,h => by simp [xo8] at h
 | .mq _ :: _,_,h => by simp [xo8] at h
 | .sf _ _ _ :: _,_,h => by simp [xo8] at h
 | .vw _ _ _ _ :: _,_,h => by simp [xo8] at h
 | .pv _ _ _ _ _ :: _,_,h => by simp [xo8] at h
 | .tup _ :: _,_,h => by simp [xo8] at h
 | .fn _ _ :: _,_,h => by simp [xo8] at h
 | .e0 :: _,_,h => by simp [xo8] at h
 | .hdr _ _ :: _,_,h => by simp [xo8] at h
 | .st _ :: _,_,h => by simp [xo8] at h

theorem xk6 {dst : Option Nat} (h : dstB N dst) : ∀ d,dst=some d->d < N:=fun d e => by subst e; exact h

theorem yv8 (h : SimB Z β φ N B M w0 st a w) {o : Oper} {c K} (ho : o.op=.call c) (hq : yf0 P N st o.dst c K) {K' : Act->World->Prop} {Q : Exit->Act->World->Prop}
 (hK : ∀ st' a' w',Sim Z N B M w0 st' a' w'->K st'->K' a' w') : o.wp P a w K' Q:=by
 unfold yf0 at hq
 split at hq
 . rename_i x hcal
   split at hq
   . rename_i f caps avs hx havs
     obtain ⟨e1,e2⟩:=yy9 h havs
     have e1' : c.args.size=avs.length:=by simpa using e1
     obtain ⟨av0,hx,hav0⟩:=Option.map_eq_some_iff.1 hx
     have hfn:=zm9 (xc8 h hx)
     rw [hav0] at hfn
     -- the values
     have hargs : ∃ us : List Value,a.eval x=.func (.func f) #[] us.toArray∧us.length=caps.length∧∀ i,i < caps.length->Rel β (free Z φ st.o) w (caps.getD i .undef) (us.getD i Go.undef):=by
      generalize a.eval x=v at *
      cases hfn with
      | fn hl hr => exact ⟨_,rfl,hl,hr⟩
     obtain ⟨us,hev,hul,hur⟩:=hargs
     have hvs : ((c.args.toList.map a.eval)++us).length=(avs++caps).length:=by simp [hul]; omega
     have hrel : ∀ i,i < (avs++caps).length->Rel β (free Z φ st.o) w ((avs++caps).getD i .undef) (((c.args.toList.map a.eval)++us).getD i Go.undef):=fun i hi => by
      by_cases hlt : i < avs.length
      . have:=e2 i hlt
        simp only [List.getD_eq_getElem?_getD] at this ⊢
        rwa [List.getElem?_append_left hlt,List.getElem?_append_left (by simp; omega)]
      . have:=hur (i - avs.length) (by simp at hi; omega)
        simp only [List.getD_eq_getElem?_getD] at this ⊢
        rw [List.getElem?_append_right (by omega),List.getElem?_append_right (by simp; omega)]
        simpa [e1] using this
     have harr : (c.args.map a.eval)++us.toArray=((c.args.toList.map a.eval)++us).toArray:=by cases c.args; simp
     have hrun : Enters P f->(execOp a.eval o).run P w=.ok (.enter f ((c.args.toList.map a.eval)++us).toArray) w:=by
      rintro ⟨fn,hf1,hf2,hf3⟩
      simp only [execOp,ho,resolve,hcal,Sem.run_bind,hev,Deferred.ofValue,Sem.run_pure,Result.andThen_ok,invoke,callFunc,program,Array.empty_append,harr,Sem.run,hf1,hf2,hf3]
      rfl
     rcases hq with ⟨d,sh,res,oo,hdst,hq,hd,hk⟩ | ⟨κ,ρ,ks,mavs,oi,keep,sh,R,hq,hpass,hobjs,hni,hdd,hKR⟩
     . split at hq
       . rename_i xs hxs
         obtain ⟨hent,hspec⟩:=hq
         have hcalls : ∃ S,(∀ g,(w.heap.size<=g∨(sh=true∧S g))->w.heap.size<=g∨free Z φ st.o g)∧((c.args.toList.map a.eval)++us).length=xs.length ∧
          ∀ i,i < xs.length->Rd S w (xs.getD i .nilptr) (((c.args.toList.map a.eval)++us).getD i Go.undef):=by
          cases sh with
          | false =>
            simp only [Bool.false_eq_true,if_false] at hxs
            obtain ⟨h1,h2⟩:=yt0 h hvs hrel hxs
            exact ⟨fun _ => True,fun g hg => .inl (by simpa using hg),h1,h2⟩
          | true =>
            simp only [if_true] at hxs
            obtain ⟨h1,h2⟩:=yh4 hxs
            exact ⟨free Z φ st.o,fun g hg => by simpa using hg,by rw [hvs,h1],fun i hi => h2 _ _ _ i _ hi (hrel i (by rw [← h1]; exact hi))⟩
         obtain ⟨S,hS,hl,hr⟩:=hcalls
         have hc:=hspec S w _ hl hr
         unfold Oper.wp
         rw [hrun hent,Oper.upon_enter]
         refine hc.mono fun e w' ⟨v,he,hfr,hres⟩ => ?_
         subst he
         refine hK _ _ _ ?_ hk
         rw [hdst]
         exact h.imp hfr hres hS hd
       . exact hq.elim
     . obtain ⟨hent,hspec⟩:=hq
       have hn5:=hni
       simp only [xs9,List.all_eq_true,Bool.or_eq_true,beq_iff_eq,bne_iff_ne,ne_eq] at hn5
       have hlko : ∀ {j ob},lk j oi=some ob->lk (nth κ j) st.o=some (ob.ren (nth κ)):=fun hj => (yk4 hobjs hj).1
       have hblk : ∀ g,free Z φ st.o g->∀ j ob,lk j oi=some ob->ob.isRes=false->¬ φ (nth κ j) g:=fun g hg j ob hj _ => hg.2 _ _ (hlko hj) (yk4 hobjs hj).2
       let S : Nat->Prop:=if sh then free Z φ st.o else fun _ => True
       have hSF : ∀ g,free Z φ st.o g->free S (fun j => φ (nth κ j)) oi g:=fun g hg => by
        refine ⟨?_,hblk g hg⟩
        show (if sh then free Z φ st.o else fun _ => True) g
        cases sh
        . trivial
        . exact hg
       have hargsR : ∀ (cs vs : List AV) (us : List Value),ya7 P (delL ((xh7 oi).map (nth κ)) st.o) (nth κ) sh cs vs->us.length=cs.length ->
        (∀ i,i < cs.length->Rel β (free Z φ st.o) w (cs.getD i .undef) (us.getD i Go.undef)) ->
        us.length=vs.length∧∀ i,i < vs.length->Rel (fun j => β (nth κ j)) (free S (fun j => φ (nth κ j)) oi) w (vs.getD i .undef) (us.getD i Go.undef):=by
        intro cs
        induction cs with
        | nil =>
          intro vs us hp hl _
          cases vs with
          | nil => exact ⟨hl,fun i hi => by simp at hi⟩
          | cons v vs => exact hp.elim
        | cons cx cs ih =>
          intro vs us hp hl hr
          cases vs with
          | nil => exact hp.elim
          | cons v vs =>
            cases us with
            | nil => simp at hl
            | cons u us =>
              obtain ⟨h1,h2⟩:=ih vs us hp.2 (by simpa using hl) fun i hi => by simpa using hr (i + 1) (by simpa using hi)
              refine ⟨by simp [h1],fun i hi => ?_⟩
              cases i with
              | succ i => simpa using h2 i (by simpa using hi)
              | zero =>
                have h0 : Rel β (free Z φ st.o) w cx u:=by simpa using hr 0 (by simp)
                simp only [List.getD_cons_zero]
                rcases hp.1 with e | ⟨e,x,hx,rfl⟩
                . rw [e] at h0
                  exact (h0.unren).move fun g hg _ => ⟨hSF g hg,rfl⟩
                . subst e
                  refine .d (xh6 (ob:=delL ((xh7 oi).map (nth κ)) st.o) (fun j o hj => h.objs j o (zh4 hj).2) hSF (fun j o g hj hg => ?_) h0 hx)
                  obtain ⟨h3,h4⟩:=zh4 hj
                  refine ⟨trivial,fun i ob hi _ hgi => h3 ?_⟩
                  have:=h.disj j (nth κ i) _ _ g h4 (hlko hi) hg hgi
                  rw [this]
                  exact List.mem_map.2 ⟨i,xo6 (by rw [hi]; rfl),rfl⟩
       obtain ⟨hl,hr⟩:=hargsR _ _ _ hpass hvs hrel
       have hoks : ∀ j ob,lk j oi=some ob->OK (fun j => β (nth κ j)) (free S (fun j => φ (nth κ j)) oi) w ob (β (nth κ j)) (φ (nth κ j)):=fun j ob hj =>
        ((h.objs _ _ (hlko hj)).unren).move (fun g hg _ => ⟨hSF g hg,rfl⟩) (Nat.le_refl _) fun _ _ => rfl
       have hdj : ∀ j j' ob ob' g,lk j oi=some ob->lk j' oi=some ob'->φ (nth κ j) g->φ (nth κ j') g->j=j':=fun j j' ob ob' g hj hj' hg hg' => by
        have e:=h.disj _ _ _ _ g (hlko hj) (hlko hj') hg hg'
        exact (hn5 j (xo6 (by rw [hj]; rfl)) j' (xo6 (by rw [hj']; rfl))).resolve_right fun hne => hne e
       have hc:=hspec S (fun j => β (nth κ j)) (fun j => φ (nth κ j)) w _ hl hr hoks hdj
       unfold Oper.wp
       rw [hrun hent,Oper.upon_enter]
       refine hc.mono fun e w' ⟨v,res,oo,he,hR,hfr,hres⟩ => ?_
       subst he
       obtain ⟨hnm,hk⟩:=hKR res oo hR
       simp only [xj9,Bool.and_eq_true,List.all_eq_true,Bool.or_eq_true,List.contains_iff_mem,beq_iff_eq,bne_iff_ne,Bool.not_eq_true',ne_eq] at hnm
       obtain ⟨⟨⟨⟨hn1,hn2⟩,hn3⟩,hn4⟩,_⟩:=hnm
       refine hK _ _ _ ?_ hk
       refine h.impM (κ:=nth κ) (fun j ob hj => ⟨_,yk4 hobjs hj⟩) hfr hres (fun g hg => hg) (fun g hg => ?_) (fun j hj => ?_) (fun j hj hjk => ?_) (fun j hj hjk => ?_) (fun j j' hj hj' e => ?_) (xk6 hdd)
       . by_cases hbo : xc6 (fun j => φ (nth κ j)) oi g
         . exact .inr (.inl hbo)
         . rcases hg with h1 | h1 | ⟨h1,h2⟩
           . exact .inl h1
           . exact .inr (.inl h1)
           . subst h1
             exact .inr (.inr h2)
       . obtain ⟨⟨⟨h1,h2⟩,h3⟩,h4⟩:=hn1 j hj
         exact ⟨h3,zl4 h2,by simpa using h4⟩
       . exact (hn2 j (xo6 hj)).resolve_left hjk
       . exact (hn3 j (xo6 hj)).resolve_left hjk
       . exact (hn4 j (xo6 hj) j' (xo6 hj')).resolve_right fun hne => hne e
   . exact hq.elim
 . exact hq.elim

theorem zl2 (h : Sim Z N B M w0 st a w) {o : Oper} {K} (hq : opA P N st o K) {K' : Act->World->Prop} {Q : Exit->Act->World->Prop}
 (hK : ∀ st' a' w',Sim Z N B M w0 st' a' w'->K st'->K' a' w') : o.wp P a w K' Q:=by
 obtain ⟨β,φ,h⟩:=h
 have fin : ∀ {st'},Done P Z N B M w0 o a w st'->K st'->o.wp P a w K' Q:=by
  rintro st' ⟨n,w',hrun,hr⟩ hk
  unfold Oper.wp
  rw [hrun]
  rcases hr with ⟨v,rfl,hs⟩ | ⟨rfl,hs⟩
  . exact hK _ _ _ hs hk
  . exact hK _ _ _ hs hk
 unfold opA at hq
 split at hq
 . rename_i c st' hn
   exact fin (nilA_spec h (xk6 hq.2.1) hn hq.1) hq.2.2
 . split at hq
   . rename_i c av hqv
     obtain ⟨u,h1,h2⟩:=zq4 h hqv hq.1
     unfold Oper.wp
     rw [h1]
     exact hK _ _ _ ⟨β,φ,h.put (xk6 hq.2.1) h2⟩ hq.2.2
   . split at hq
     . rename_i c st' hlv
       exact fin (lv_spec h (xk6 hq.2.1) hlv hq.1) hq.2.2
     . split at hq
       . rename_i c hop
         exact yv8 h hop hq hK
       . rename_i op t x y u hop
         unfold yn7 at hq
         split at hq
         . split at hq
           . rename_i es hes
             obtain ⟨hel,hdd,hq⟩:=hq
             obtain ⟨e,he⟩:=Option.isSome_iff_exists.1 hel
             have hu:=xc9 he
             obtain ⟨av,hav,hsl⟩:=Option.bind_eq_some_iff.1 hes
             have hrel:=xc8 h hav
             have key : ∃ a0 n c,a.eval x=.slice a0 n c∧(es ≠ []->a0.isNone=false):=by
              generalize a.eval x=v at *
              cases av<;>simp only [ym0,reduceCtorEq] at hsl
              . rename_i z
                cases z<;>simp only [Option.some.injEq,reduceCtorEq] at hsl
                subst hsl
                cases hrel with
                | d hr => cases hr with
                  | nil a1 => exact ⟨a1,0,0,rfl,fun h => absurd rfl h⟩
                  | slice => exact ⟨_,_,_,rfl,fun _ => rfl⟩
              . rename_i j
                obtain ⟨ob,hj,hrow⟩:=Option.bind_eq_some_iff.1 hsl
                cases hrel
                have hr:=xw4 (h.objs j _ hj) hrow (S':=fun _ => True) (fun _ _ _ => trivial) (fun _ _ => trivial)
                generalize β j=v at *
                cases hr with
                | nil a1 => exact ⟨a1,0,0,rfl,fun h => absurd rfl h⟩
                | slice => exact ⟨_,_,_,rfl,fun _ => rfl⟩
              . simp only [Option.some.injEq] at hsl
                subst hsl
                cases hrel
                exact ⟨_,_,_,rfl,fun h => absurd rfl h⟩
             obtain ⟨a0,n,c,hv,hne⟩:=key
             have hq':=hq a0.isNone hne
             cases op<;>simp only at hq'
             . unfold Oper.wp
               have hrun : (execOp a.eval o).run P w=.ok (.value (.bool a0.isNone)) w:=by
                simp only [execOp,hop,hv,show a.eval (.const (.slice none 0 0))=.slice none 0 0 from rfl,eqGuard_at_slice,Sem.run_bind,Sem.run_pure,Result.andThen_ok,Lib.run_eql_slice_nil w t e a0 n c 0 0 hu]
               rw [hrun]
               exact hK _ _ _ ⟨β,φ,h.put (xk6 hdd) (.d (.bool _))⟩ hq'
             . unfold Oper.wp
               have hrun : (execOp a.eval o).run P w=.ok (.value (.bool !a0.isNone)) w:=by
                simp only [execOp,hop,hv,show a.eval (.const (.slice none 0 0))=.slice none 0 0 from rfl,eqGuard_at_slice,Sem.run_bind,Sem.run_pure,Result.andThen_ok,run_neq_slice_nil_any w t e a0 n c 0 0 hu]
               rw [hrun]
               exact hK _ _ _ ⟨β,φ,h.put (xk6 hdd) (.d (.bool _))⟩ hq'
           . exact hq.elim
         . exact hq.elim
       . exact hq.elim

theorem xl6 (h : Sim Z N B M w0 st a w) {l : List Oper} {o : Oper} {K} (hq : xm2 P N l st o K) {K' : Act->World->Prop} {Q : Exit->Act->World->Prop}
 (hK : ∀ st' a' w',Sim Z N B M w0 st' a' w'->K st'->K' a' w') :
 if Region.wanted o (yielded l.toArray a.tmps) then o.wp P a w K' Q else K' (a.put o.dst Go.undef) w:=by
 unfold xm2 xk4 at hq
 have hskip : dstB N o.dst∧K (st.put o.dst yj5)->K' (a.put o.dst Go.undef) w:=by
  rintro ⟨h1,h2⟩
  obtain ⟨β,φ,h⟩:=h
  exact hK _ _ _ ⟨β,φ,h.put (xk6 h1) zj8⟩ h2
 split at hq
 . rename_i hg
   have : Region.wanted o (yielded l.toArray a.tmps)=true:=by simp [Region.wanted,hg]
   rw [if_pos this]
   exact zl2 h hq hK
 . rename_i j want hg
   split at hq
   . rename_i d hd
     have hd' : ((l.toArray)[j]?).bind (·.dst)=some d:=by simpa using hd
     obtain ⟨β,φ,hB⟩:=h
     split at hq
     . rename_i b hb
       have hv:=hB.slots d _ hb
       have hdl : d < a.tmps.size:=by
        rcases Nat.lt_or_ge d a.tmps.size with h' | h'
        . exact h'
        . have e : a.tmps.getD d Go.undef=Go.undef:=by simp [Array.getElem?_eq_none h']
          rw [e] at hv
          cases hv with | d hr => cases hr
       have hval : a.tmps[d]? = some (.bool b):=by
        have e : a.tmps.getD d Go.undef=.bool b:=by
         generalize a.tmps.getD d Go.undef=v at *
         cases hv with | d hr => cases hr; rfl
        simp [hdl] at e ⊢; exact e
       have hy : yielded l.toArray a.tmps j=some b:=by simp [yielded,hd,hval]
       by_cases hbw : b=want
       . have : Region.wanted o (yielded l.toArray a.tmps)=true:=by simp [Region.wanted,hg,hy,hbw]
         rw [if_pos this]
         exact zl2 ⟨β,φ,hB⟩ (hq.1 hbw) hK
       . have : ¬ Region.wanted o (yielded l.toArray a.tmps)=true:=by simp [Region.wanted,hg,hy,hbw]
         rw [if_neg this]
         exact hskip (hq.2 hbw)
     . rename_i xs hb
       have hv:=hB.slots d _ hb
       have hy : yielded l.toArray a.tmps j=none:=by
        simp only [yielded,hd',Option.bind_some]
        cases hh : a.tmps[d]? with
        | none => rfl
        | some v =>
          have e : a.tmps.getD d Go.undef=v:=by simp [hh]
          rw [e] at hv
          cases hv; rfl
       have : ¬ Region.wanted o (yielded l.toArray a.tmps)=true:=by simp [Region.wanted,hg,hy]
       rw [if_neg this]
       exact hskip hq
     . exact hq.elim
   . exact hq.elim
end
end Abs
