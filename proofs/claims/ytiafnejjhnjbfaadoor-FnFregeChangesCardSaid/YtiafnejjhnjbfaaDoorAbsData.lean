/- The abstract data, its reading in memory, and how readings survive a change of memory. No condition. -/
import Derived.WalkKit
import Derived.Laws.AppendOwn
import Derived.ArgAppend
import Derived.Laws.OwnMore
import Derived.Laws.MakeOwn
set_option linter.all false
namespace Abs
open Go Go.RowKit

inductive D where
 | int (k : IntKind) (n : Int)
 | bool (b : Bool)
 | str (s : ByteArray)
 | slice (es : List D)
 | agg (cs : List D)
 | ptr (x : D)
 | nilptr
 | fn (f : Fn) (first caps : List D)
 | nilfn
 | tup (xs : List D)
 | map (q r : IntKind) (es : List (Int × Int))
 | nilmap
 | tag (u : Value) (es : List D)
 | sl1 (es : List D)

def D.cells : D->List D
 | .agg cs => cs
 | x => [x]
def flat (es : List D) : List D:=es.flatMap D.cells
def D.isAgg : D->Bool
 | .agg _ => true
 | _ => false

inductive Rd (S : Nat->Prop) (w : World) : D->Value->Prop
 | int (k n) : Rd S w (.int k n) (.int k n)
 | bool (b) : Rd S w (.bool b) (.bool b)
 | str (s) : Rd S w (.str s) (.string s)
 | nil (a) : Rd S w (.slice []) (.slice a 0 0)
 | slice {es : List D} {b off cap k : Nat} (vs : Nat->Value) (hk : ∀ e ∈ es,e.cells.length=k) (hcap : es.length<=cap)
  (hc : ∀ i,i < (flat es).length->S b∧w.cell? ⟨b,off + i,none⟩=some (vs i))
  (hr : ∀ i,i < (flat es).length->Rd S w ((flat es).getD i .nilptr) (vs i)) :
  Rd S w (.slice es) (.slice (some ⟨b,off,none⟩) es.length cap)
 | agg {cs : List D} {vs : List Value} (hl : vs.length=cs.length)
  (hr : ∀ i,i < cs.length->Rd S w (cs.getD i .nilptr) (vs.getD i undef)) : Rd S w (.agg cs) (.agg vs.toArray)
 | ptr {x : D} {b off : Nat} (vs : Nat->Value)
  (hc : ∀ i,i < x.cells.length->S b∧w.cell? ⟨b,off + i,none⟩=some (vs i))
  (hr : ∀ i,i < x.cells.length->Rd S w (x.cells.getD i .nilptr) (vs i)) : Rd S w (.ptr x) (.pointer (some ⟨b,off,none⟩))
 | nilptr : Rd S w .nilptr (.pointer none)
 | fn {f : Fn} {first caps : List D} {vs us : List Value} (hl : vs.length=first.length) (hl' : us.length=caps.length)
  (hr : ∀ i,i < first.length->Rd S w (first.getD i .nilptr) (vs.getD i undef))
  (hr' : ∀ i,i < caps.length->Rd S w (caps.getD i .nilptr) (us.getD i undef)) : Rd S w (.fn f first caps) (.func f vs.toArray us.toArray)
 | nilfn : Rd S w .nilfn .nilFunc
 | tup {xs : List D} {vs : List Value} (hl : vs.length=xs.length)
  (hr : ∀ i,i < xs.length->Rd S w (xs.getD i .nilptr) (vs.getD i undef)) : Rd S w (.tup xs) (.tuple vs.toArray)
 | map {q r : IntKind} {es : List (Int × Int)} {b c : Nat} (ms : Array MapEntry) (hS : S b) (hb : w.heap[b]? = some (.map ms c))
  (he : ms.toList.map (fun m => (m.key,m.val))=es.map fun p => (Value.int q p.1,Value.int r p.2)) : Rd S w (.map q r es) (.map (some b))
 | nilmap : Rd S w .nilmap (.map none)
 | tag {u : Value} {es : List D} (h : Rd S w (.slice es) u) : Rd S w (.tag u es) u
 | sl1 {u : Value} {es : List D} (h : Rd S w (.slice es) u) : Rd S w (.sl1 es) u

theorem cell_lt {w : World} {a : Addr} {v : Value} (h : w.cell? a=some v) : a.block < w.heap.size:=World.block_lt_of_cell? w a h

theorem Rd.move {S S' : Nat->Prop} {w w' : World} (hm : ∀ g,S g->g < w.heap.size->S' g∧w'.heap[g]? = w.heap[g]?) :
 ∀ {x v},Rd S w x v->Rd S' w' x v:=by
 intro x v h
 induction h with
 | int k n => exact .int k n
 | bool b => exact .bool b
 | str s => exact .str s
 | nil a => exact .nil a
 | slice vs hk hcap hc _ ih =>
   refine .slice vs hk hcap (fun i hi => ?_) ih
   obtain ⟨h1,h2⟩:=hc i hi
   obtain ⟨h3,h4⟩:=hm _ h1 (cell_lt h2)
   exact ⟨h3,(World.cell?_of_block h4).trans h2⟩
 | agg hl _ ih => exact .agg hl ih
 | ptr vs hc _ ih =>
   refine .ptr vs (fun i hi => ?_) ih
   obtain ⟨h1,h2⟩:=hc i hi
   obtain ⟨h3,h4⟩:=hm _ h1 (cell_lt h2)
   exact ⟨h3,(World.cell?_of_block h4).trans h2⟩
 | nilptr => exact .nilptr
 | fn hl hl' _ _ ih ih' => exact .fn hl hl' ih ih'
 | nilfn => exact .nilfn
 | tup hl _ ih => exact .tup hl ih
 | map ms hS hb he =>
   obtain ⟨h1,h2⟩:=hm _ hS (Array.getElem?_eq_some_iff.1 hb).1
   exact .map ms h1 (h2.trans hb) he
 | nilmap => exact .nilmap
 | tag _ ih => exact .tag ih
 | sl1 _ ih => exact .sl1 ih

theorem Rd.weaken {S S' : Nat->Prop} {w : World} (hm : ∀ g,S g->S' g) {x v} (h : Rd S w x v) : Rd S' w x v :=
 h.move fun g hg _ => ⟨hm g hg,rfl⟩

inductive EmptyS : Value->Prop
 | nil (a) : EmptyS (.slice a 0 0)
 | some (b off c) : EmptyS (.slice (some ⟨b,off,none⟩) 0 c)
def Emp1 (w : World) (F : Nat->Prop) (v : Value) : Prop:=(∃ a,v=.slice a 0 0)∨∃ e,w.ownsRow 0 e 1 v 0 []∧∀ b,v.ownBlock=some b->F b
theorem Emp1.mono {w F F' v} (h : Emp1 w F v) (hF : ∀ g,F g->F' g) : Emp1 w F' v:=h.imp id fun ⟨e,h1,h2⟩ => ⟨e,h1,fun b hb => hF b (h2 b hb)⟩
inductive Dp (w : World) : D->Value->(Nat->Prop)->Prop
 | int (k n F) : Dp w (.int k n) (.int k n) F
 | bool (b F) : Dp w (.bool b) (.bool b) F
 | str (s F) : Dp w (.str s) (.string s) F
 | nil (v F) (h : EmptyS v) : Dp w (.slice []) v F
 | slice {es : List D} {v : Value} {F : Nat->Prop} {e : TypeId} {k : Nat} (xs : List Value) (fs : Nat->Nat->Prop) (hk0 : 0 < k) (hk : ∀ x ∈ es,x.cells.length=k) (hw : w.ownsRow 0 e k v es.length xs)
  (hb : ∀ b,v.ownBlock=some b->F b∧∀ i,¬ fs i b) (hf : ∀ i g,fs i g->F g) (hd : ∀ i j g,fs i g->fs j g->i=j)
  (hr : ∀ i,i < (flat es).length->Dp w ((flat es).getD i .nilptr) (xs.getD i undef) (fs i)) : Dp w (.slice es) v F
 | sl1 {es : List D} {v : Value} {F : Nat->Prop} (h : Dp w (.slice es) v F) (h0 : es=[]->Emp1 w F v) : Dp w (.sl1 es) v F

theorem Dp.mono {w} : ∀ {x v F F'},Dp w x v F->(∀ g,F g->F' g)->Dp w x v F':=by
 intro x v F F' h
 induction h generalizing F' with
 | int k n => exact fun _ => .int k n _
 | bool b => exact fun _ => .bool b _
 | str s => exact fun _ => .str s _
 | nil v _ h => exact fun _ => .nil v _ h
 | slice xs fs hk0 hk hw hb hf hd hr => exact fun hF => .slice xs fs hk0 hk hw (fun b hbb => ⟨hF _ (hb b hbb).1,(hb b hbb).2⟩) (fun i g h => hF _ (hf i g h)) hd hr
 | sl1 h h0 ih => exact fun hF => .sl1 (ih hF) fun e => (h0 e).mono hF
theorem ownsRow_move {w w' : World} {base e size v n xs} (h : w.ownsRow base e size v n xs) (hb : ∀ g,v.ownBlock=some g->w'.heap[g]? = w.heap[g]?) : w'.ownsRow base e size v n xs:=by
 refine ⟨h.1,?_⟩
 rcases h.2 with hn | ⟨g,cap,cur,rfl,hbg,hg,rest⟩
 . exact .inl hn
 . exact .inr ⟨g,cap,cur,rfl,hbg,(hb g rfl).trans hg,rest⟩
theorem Emp1.move {w w' : World} {F v} (h : Emp1 w F v) (hm : ∀ g,F g->g < w.heap.size->w'.heap[g]? = w.heap[g]?) : Emp1 w' F v :=
 h.imp id fun ⟨e,h1,h2⟩ => ⟨e,ownsRow_move h1 fun g hg => hm g (h2 g hg) (h1.lt g hg).2,h2⟩
theorem Dp.move {w w' : World} : ∀ {x v F},Dp w x v F->(∀ g,F g->g < w.heap.size->w'.heap[g]? = w.heap[g]?)->Dp w' x v F:=by
 intro x v F h
 induction h with
 | int k n => exact fun _ => .int k n _
 | bool b => exact fun _ => .bool b _
 | str s => exact fun _ => .str s _
 | nil v _ h => exact fun _ => .nil v _ h
 | sl1 _ h0 ih => exact fun hm => .sl1 (ih hm) fun e => (h0 e).move hm
 | slice xs fs hk0 hk hw hb hf hd _ ih =>
   exact fun hm => .slice xs fs hk0 hk (ownsRow_move hw fun g hg => hm g (hb g hg).1 (hw.lt g hg).2) hb hf hd fun i hi => ih i hi fun g hg => hm g (hf i g hg)

def D.bare : D->Bool
 | .int _ _ => true
 | .bool _ => true
 | .str _ => true
 | .slice [] => true
 | _ => false
theorem dp_bare {S w x v F} (hb : x.bare=true) (h : Rd S w x v) : Dp w x v F:=by
 cases h<;>simp only [D.bare,Bool.false_eq_true] at hb
 . exact .int _ _ _
 . exact .bool _ _
 . exact .str _ _
 . exact .nil _ _ (.nil _)
 . rename_i es b off cap k vs hk hcap hc hr
   split at hb<;>simp_all
   exact .nil _ _ (.some _ _ _)
def ownS (v : Value) (g : Nat) : Prop:=v.ownBlock=some g

def lk {α : Type} (k : Nat) : List (Nat × α)->Option α
 | [] => none
 | (k',v) :: r => if k=k' then some v else lk k r
def ins {α : Type} (k : Nat) (v : α) : List (Nat × α)->List (Nat × α)
 | [] => [(k,v)]
 | (k',v') :: r => if k' < k then (k,v) :: (k',v') :: r else if k=k' then (k,v) :: r else (k',v') :: ins k v r
def del {α : Type} (k : Nat) : List (Nat × α)->List (Nat × α)
 | [] => []
 | (k',v') :: r => if k=k' then del k r else (k',v') :: del k r

theorem lk_ins {α : Type} (i k : Nat) (v : α) : ∀ l : List (Nat × α),lk i (ins k v l)=if i=k then some v else lk i l
 | [] => by simp [ins,lk]
 | (k', v') :: r => by
   simp only [ins]
   split
   . simp [lk]
   . split
     . rename_i h; subst h; simp only [lk]; split<;>simp_all
     . simp only [lk,lk_ins i k v r]
       split
       . rename_i h1 h2; subst h2; rw [if_neg (by omega)]
       . rfl
theorem lk_del {α : Type} (i k : Nat) : ∀ l : List (Nat × α),lk i (del k l)=if i=k then none else lk i l
 | [] => by simp [del,lk]
 | (k', v') :: r => by
   simp only [del]
   split
   . rename_i h; subst h; simp only [lk,lk_del i k r]; split<;>simp_all
   . simp only [lk,lk_del i k r]
     split
     . rename_i h1 h2; subst h2; rw [if_neg (by omega)]
     . rfl

inductive AV where
 | undef
 | d (x : D)
 | sl (j : Nat)
 | p (j off : Nat)
 | pe (j k i fo : Nat)
 | tup (xs : List AV)
 | fn (f : Fn) (caps : List AV)
 | e0
 | hdr (j : Nat) (u : Value)
 | nilS
 | st (xs : List AV)
 | mq (j : Nat)
 | sf (j k l : Nat)
 | vw (j q n k : Nat)
 | pv (j q k i fo : Nat)

inductive AO where
 | box (e : TypeId) (cells : List AV)
 | arr (e : TypeId) (k : Nat) (es : List D)
 | arv (e : TypeId) (k : Nat) (es : List D)
 | dp (t : Option (TypeId × Nat)) (es : List D) (hole : Option ((Nat × Nat) × Option Nat))
 | mp (q r : IntKind) (es : List (Int × Int))
 | res (rs : List (Value × List D))
 | arw (e : TypeId) (k : Nat) (es : List D) (vs : List (Nat × Nat))
 | view (n : Nat)
 | d1 (es : List D)
def AO.isRes : AO->Bool
 | .res _ => true
 | _ => false

def lkn (j : Nat) (l : List (Nat × AO)) : Option AO :=
 match lk j l with
 | some (.res _) => none
 | x => x
theorem lkn_spec {j : Nat} {l : List (Nat × AO)} {o : AO} (h : lkn j l=some o) : lk j l=some o∧o.isRes=false:=by
 unfold lkn at h
 split at h
 . cases h
 . rename_i hn
   refine ⟨h,?_⟩
   cases o with
   | res rs => exact absurd h (hn rs)
   | _ => rfl
def oneKey : Nat:=2000000001
def isE0 : Option AO->Bool
 | some (.arr _ 1 []) => true
 | _ => false
def eatD (o : List (Nat × AO)) (i : Nat) (ys : List D) : D :=
 match lk oneKey o with
 | none => .slice ys
 | some _ => bif isE0 (lk i o) then .sl1 [] else .slice ys
structure St where
 s : List (Nat × AV)
 o : List (Nat × AO)

inductive Rel (β : Nat->Value) (S : Nat->Prop) (w : World) : AV->Value->Prop
 | undef (v) : Rel β S w .undef v
 | d {x v} (h : Rd S w x v) : Rel β S w (.d x) v
 | sl (j) : Rel β S w (.sl j) (β j)
 | p {j off b n c} (h : β j=.slice (some ⟨b,0,none⟩) n c) : Rel β S w (.p j off) (.pointer (some ⟨b,off,none⟩))
 | pe {j k i fo b n c} (h : β j=.slice (some ⟨b,0,none⟩) n c) : Rel β S w (.pe j k i fo) (.pointer (some ⟨b,i * k + fo,none⟩))
 | tup {xs : List AV} {vs : List Value} (hl : vs.length=xs.length)
  (hr : ∀ i,i < xs.length->Rel β S w (xs.getD i .undef) (vs.getD i Go.undef)) : Rel β S w (.tup xs) (.tuple vs.toArray)
 | fn {f : Fn} {caps : List AV} {us : List Value} (hl : us.length=caps.length)
  (hr : ∀ i,i < caps.length->Rel β S w (caps.getD i .undef) (us.getD i Go.undef)) : Rel β S w (.fn f caps) (.func f #[] us.toArray)
 | e0n : Rel β S w .e0 (.slice none 0 0)
 | e0s (a) : Rel β S w .e0 (.slice (some a) 0 0)
 | hdr {j u v} (h : β j=u) : Rel β S w (.hdr j u) v
 | nilS : Rel β S w .nilS (.slice none 0 0)
 | st {xs : List AV} {vs : List Value} (hl : vs.length=xs.length)
  (hr : ∀ i,i < xs.length->Rel β S w (xs.getD i .undef) (vs.getD i Go.undef)) : Rel β S w (.st xs) (.agg vs.toArray)
 | mq {j b n c} (h : β j=.slice (some ⟨b,0,none⟩) n c) : Rel β S w (.mq j) (.map (some b))
 | sf {j k l b n c} (h : β j=.slice (some ⟨b,0,none⟩) n c) (hl : l<=n) : Rel β S w (.sf j k l) (.slice (if c=l then some ⟨b,0,none⟩ else some ⟨b,l * k,none⟩) (n - l) (c - l))
 | vw {j q n k b c} (h : β q=.slice (some ⟨b,0,none⟩) n c) : Rel β S w (.vw j q n k) (.slice (some ⟨b,0,none⟩) n c)
 | pv {j q k i fo b n c} (h : β q=.slice (some ⟨b,0,none⟩) n c) : Rel β S w (.pv j q k i fo) (.pointer (some ⟨b,i * k + fo,none⟩))

theorem Rel.move {β : Nat->Value} {S S' : Nat->Prop} {w w' : World} (hm : ∀ g,S g->g < w.heap.size->S' g∧w'.heap[g]? = w.heap[g]?) :
 ∀ {x v},Rel β S w x v->Rel β S' w' x v:=by
 intro x v h
 induction h with
 | undef v => exact .undef v
 | d h => exact .d (h.move hm)
 | sl j => exact .sl j
 | p h => exact .p h
 | pe h => exact .pe h
 | tup hl _ ih => exact .tup hl ih
 | fn hl _ ih => exact .fn hl ih
 | e0n => exact .e0n
 | e0s a => exact .e0s a
 | hdr h => exact .hdr h
 | nilS => exact .nilS
 | st hl _ ih => exact .st hl ih
 | mq h => exact .mq h
 | sf h hl => exact .sf h hl
 | vw h => exact .vw h
 | pv h => exact .pv h

def argV : D->AV
 | .fn f [] [] => .fn f []
 | .fn f [] [c] => .fn f [.d c]
 | .fn f [] [c,c'] => .fn f [.d c,.d c']
 | .fn f [] [c,c',c''] => .fn f [.d c,.d c',.d c'']
 | x => .d x
theorem argV_rel {β S w x v} (h : Rd S w x v) : Rel β S w (argV x) v:=by
 unfold argV
 split
 . cases h with
   | fn hl hl' hr hr' =>
     obtain rfl:=List.eq_nil_of_length_eq_zero hl
     exact .fn (caps:=[]) hl' (by simp)
 . rename_i f c
   cases h with
   | fn hl hl' hr hr' =>
     obtain rfl:=List.eq_nil_of_length_eq_zero hl
     refine .fn (caps:=[.d c]) hl' fun i hi => ?_
     have : i=0:=by simpa using hi
     subst this
     exact .d (by simpa using hr' 0 (by simp))
 . rename_i f c c'
   cases h with
   | fn hl hl' hr hr' =>
     obtain rfl:=List.eq_nil_of_length_eq_zero hl
     refine .fn (caps:=[.d c,.d c']) hl' fun i hi => ?_
     match i,hi with
     | 0,_ => exact .d (by simpa using hr' 0 (by simp))
     | 1,_ => exact .d (by simpa using hr' 1 (by simp))
 . rename_i f c c' c''
   cases h with
   | fn hl hl' hr hr' =>
     obtain rfl:=List.eq_nil_of_length_eq_zero hl
     refine .fn (caps:=[.d c,.d c',.d c'']) hl' fun i hi => ?_
     match i,hi with
     | 0,_ => exact .d (by simpa using hr' 0 (by simp))
     | 1,_ => exact .d (by simpa using hr' 1 (by simp))
     | 2,_ => exact .d (by simpa using hr' 2 (by simp))
 . exact .d h
def fnOf : AV->AV
 | .d x => argV x
 | a => a
theorem fnOf_rel {β S w a v} (h : Rel β S w a v) : Rel β S w (fnOf a) v:=by
 unfold fnOf
 split
 . cases h with
   | d h => exact argV_rel h
 . exact h
end Abs
namespace Abs
theorem za1 {p : Prop} [Decidable p] : (decide p=true)=p:=decide_eq_true_eq
theorem za2 {p : Prop} {_ : Decidable p} : decide p=false↔¬ p:=decide_eq_false_iff_not
theorem za3 {α : Type} [BEq α] [LawfulBEq α] {a b : α} : (a != b)=true↔a ≠ b:=bne_iff_ne
theorem za4 {α : Type} [BEq α] [LawfulBEq α] {a b : α} : (a == b)=true↔a=b:=beq_iff_eq
theorem za5 {α : Type} [BEq α] [LawfulBEq α] {a b : α} : (a != b)=false↔a=b:=bne_eq_false_iff_eq
theorem za6 {α : Type} [BEq α] [LawfulBEq α] {a b : α} : (a == b)=false↔a ≠ b:=beq_eq_false_iff_ne
theorem za7 {α : Type} [LT α] {x y : α} : x > y↔y < x:=gt_iff_lt
theorem za8 {α : Type} [LE α] {x y : α} : x ≥ y↔y<=x:=ge_iff_le
theorem za9 {α : Type} {p : α->Prop} {a : α} {l : List α} (h : p a∧∀ x,x ∈ l->p x) : ∀ x,x ∈ a :: l->p x:=List.forall_mem_cons.2 h
theorem zb1 {α : Type} {a b : α} {l : List α} : b ∈ a :: l↔b=a∨b ∈ l:=List.mem_cons
theorem zb2 {α : Type} {a : α} : ¬ a ∈ ([] : List α):=List.not_mem_nil
end Abs
