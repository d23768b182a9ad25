/- What functions of this program compute, over plain data. No condition. -/
import Derived.Test.YtiafnejjhnjbfaaDoorAbsData
import Derived.MapKept
set_option linter.all false
namespace Abs
open Go
def schemesD : List D:=[.str ⟨#[40,97,62,40,98,62,97,41,41]⟩,.str ⟨#[40,40,97,62,40,98,62,99,41,41,62,40,40,97,62,98,41,62,40,97,62,99,41,41,41]⟩,.str ⟨#[40,40,126,97,62,126,98,41,62,40,98,62,97,41,41]⟩,.str ⟨#[40,40,97,38,98,41,62,97,41]⟩,.str ⟨#[40,40,97,38,98,41,62,98,41]⟩,.str ⟨#[40,97,62,40,98,62,40,97,38,98,41,41,41]⟩,.str ⟨#[40,97,62,40,97,124,98,41,41]⟩,.str ⟨#[40,98,62,40,97,124,98,41,41]⟩,.str ⟨#[40,40,97,62,99,41,62,40,40,98,62,99,41,62,40,40,97,124,98,41,62,99,41,41,41]⟩,.str ⟨#[49]⟩]
def globs : List (Nat × List D):=[(1,schemesD)]
def globI : List Nat:=[0]
def globB (g : Nat) : Prop:=(∃ p ∈ globs,p.1=g)∨g ∈ globI
def globD (g : Nat) : Option D:=(globs.find? fun p => p.1 == g).map fun p => .ptr (.agg p.2)
structure GS (Z : Nat->Prop) (B : Nat) (M : Nat->Prop) (w0 : World) : Prop where
 lt : ∀ g,globB g->g < B
 no : ∀ g,globB g->¬ M g
 z : ∀ g,globB g->Z g
 rd : ∀ p ∈ globs,Rd (fun g => g=p.1) w0 (.ptr (.agg p.2)) (.pointer (some ⟨p.1,0,none⟩))
 it : ∀ g ∈ globI,∃ m,w0.cell? ⟨g,0,none⟩=some (.int .i64 m)
theorem GS.sub {Z Z' : Nat->Prop} {B B' : Nat} {M M' : Nat->Prop} {w w' : World} (h : GS Z B M w) (hB : B<=B') (hM : ∀ g,g < B->M' g->M g) (hZ : ∀ g,g < B->¬ M g->Z g->Z' g) (hw : ∀ g,g < B->¬ M g->w'.heap[g]? = w.heap[g]?) : GS Z' B' M' w' :=
 ⟨fun g hg => Nat.lt_of_lt_of_le (h.lt g hg) hB,fun g hg hm => h.no g hg (hM _ (h.lt g hg) hm),fun g hg => hZ _ (h.lt g hg) (h.no g hg) (h.z g hg),
  fun p hp => (h.rd p hp).move fun g hg _ => ⟨hg,by subst hg; exact hw _ (h.lt _ (.inl ⟨p,hp,rfl⟩)) (h.no _ (.inl ⟨p,hp,rfl⟩))⟩,
  fun g hg => (h.it g hg).imp fun m hm => (World.cell?_of_block (a:=⟨g,0,none⟩) (hw g (h.lt _ (.inr hg)) (h.no _ (.inr hg)))).trans hm⟩
theorem globD_spec {Z B M w g x} (h : GS Z B M w) (hx : globD g=some x) : Rd Z w x (.pointer (some ⟨g,0,none⟩)):=by
 unfold globD at hx
 obtain ⟨p,hp,rfl⟩:=Option.map_eq_some_iff.1 hx
 have hm:=List.mem_of_find?_eq_some hp
 have he : p.1=g:=by simpa using List.find?_some hp
 subst he
 exact (h.rd p hm).weaken fun g hg => by subst hg; exact h.z _ (.inl ⟨p,hm,rfl⟩)
theorem GS.nil (h : globs=[]∧globI=[]) {Z B M w} : GS Z B M w :=
 have hb : ∀ g,¬ globB g:=fun g hg => by simp [globB,h.1,h.2] at hg
 ⟨fun g hg => (hb g hg).elim,fun g hg => (hb g hg).elim,fun g hg => (hb g hg).elim,by simp [h.1],by simp [h.2]⟩
def dr (_ : World) : Nat:=0
theorem dr_mono {w w' : World} (h : w.drawn<=w'.drawn) : dr w<=dr w':=by unfold dr; first | exact h | exact Nat.le_refl _
end Abs

namespace Abs
open Go Go.RowKit

structure DpR (β : Nat->Value) (w : World) (e : TypeId) (k : Nat) (es : List D) (ho : Option ((Nat × Nat) × Option Nat)) (v : Value) (F : Nat->Prop) (xs : List Value) (fs : Nat->Nat->Prop) : Prop where
 hk0 : 0 < k
 hk : ∀ x ∈ es,x.cells.length=k
 hw : w.ownsRow 0 e k v es.length xs
 hb : ∀ b,v.ownBlock=some b->F b∧∀ i,¬ fs i b
 hf : ∀ i g,fs i g->F g
 hd : ∀ i j g,fs i g->fs j g->i=j
 hr : ∀ i,i < (flat es).length->(∀ c d,ho=some (c,d)->c.1 * k + c.2 ≠ i)->Dp w ((flat es).getD i .nilptr) (xs.getD i Go.undef) (fs i)
 hh : ∀ c d,ho=some (c,some d)->c.1 < es.length∧c.2 < k∧β d=xs.getD (c.1 * k + c.2) Go.undef∧∀ g,¬ fs (c.1 * k + c.2) g
def DpO (β : Nat->Value) (w : World) (t : Option (TypeId × Nat)) (es : List D) (ho : Option ((Nat × Nat) × Option Nat)) (v : Value) (F : Nat->Prop) : Prop :=
 (t=none∧ho=none∧es=[]∧EmptyS v)∨∃ e k xs fs,(t=none∨t=some (e,k))∧DpR β w e k es ho v F xs fs

inductive OK (β : Nat->Value) (S : Nat->Prop) (w : World) : AO->Value->(Nat->Prop)->Prop
 | box {e cells v F} (hF : F=ownS v) (xs : List Value) (hv : v ≠ .slice none 0 0) (hw : w.ownsRow 0 e cells.length v 1 xs)
  (hr : ∀ i,i < cells.length->Rel β S w (cells.getD i .undef) (xs.getD i Go.undef)) : OK β S w (.box e cells) v F
 | arr {e k es v F} (hF : F=ownS v) (xs : List Value) (hk0 : 0 < k) (hk : ∀ x ∈ es,x.cells.length=k) (hw : w.ownsRow 0 e k v es.length xs)
  (hr : ∀ i,i < (flat es).length->Rd S w ((flat es).getD i .nilptr) (xs.getD i Go.undef)) : OK β S w (.arr e k es) v F
 | arv {e k es v F} (hF : F=ownS v) (xs : List Value) (hv : v ≠ .slice none 0 0) (hk0 : 0 < k) (hk : ∀ x ∈ es,x.cells.length=k) (hw : w.ownsRow 0 e (flat es).length v 1 xs)
  (hr : ∀ i,i < (flat es).length->Rd S w ((flat es).getD i .nilptr) (xs.getD i Go.undef)) : OK β S w (.arv e k es) v F
 | dp {t es ho v F} (hlt : ∀ g,F g->g < w.heap.size) (h : DpO β w t es ho v F) : OK β S w (.dp t es ho) v F
 | mp {q r es v F} (b : Nat) (ms : Array MapEntry) (c : Nat) (hF : F=ownS v) (hv : v=.slice (some ⟨b,0,none⟩) 0 0) (hb : w.heap[b]? = some (.map ms c))
  (he : ms.toList.map (fun m => (m.key,m.val))=es.map fun p => (Value.int q p.1,Value.int r p.2)) : OK β S w (.mp q r es) v F
 | res {rs v F} (hv : v=.slice none 0 0) (hc : ∀ g,F g->∃ cs e r,w.heap[g]? = some (.cells cs e r)) (fs : Nat->Nat->Prop) (hr : ∀ i,i < rs.length->Dp w (.slice (rs.getD i (.slice none 0 0,[])).2) (rs.getD i (.slice none 0 0,[])).1 (fs i))
  (hf : ∀ i g,fs i g->F g) (hd : ∀ i j g,fs i g->fs j g->i=j) : OK β S w (.res rs) v F
 | arw {e k es vs v F} (hlt : ∀ g,F g->g < w.heap.size) (xs : List Value) (hk0 : 0 < k) (hk : ∀ x ∈ es,x.cells.length=k) (hw : w.ownsRow 0 e k v es.length xs) (hb : ∀ b,v.ownBlock=some b->F b)
  (hr : ∀ i,i < (flat es).length->Rd S w ((flat es).getD i .nilptr) (xs.getD i Go.undef))
  (hv : ∀ q n,(q,n) ∈ vs->n<=es.length∧∃ b c,β q=.slice (some ⟨b,0,none⟩) n c∧(0 < n->F b)∧∀ i,i < n * k->w.cell? ⟨b,i,none⟩=some (xs.getD i Go.undef)) : OK β S w (.arw e k es vs) v F
 | view {n v F} (hF : F=fun _ => False) (b c : Nat) (hv : v=.slice (some ⟨b,0,none⟩) n c) : OK β S w (.view n) v F
 | d1 {es v F} (hlt : ∀ g,F g->g < w.heap.size) (h : Dp w (.sl1 es) v F) : OK β S w (.d1 es) v F

def free (Z : Nat->Prop) (φ : Nat->Nat->Prop) (o : List (Nat × AO)) (g : Nat) : Prop:=Z g∧∀ j x,lk j o=some x->x.isRes=false->¬ φ j g

theorem ask_drawn {α : Type} : ∀ (k : Ask α) (w : World),w.drawn<=(w.ask k).2.drawn
 | .done a,w => Nat.le_refl _
 | .ask what range k, w => by
   unfold World.ask
   dsimp only
   split
   . exact ask_drawn _ w
   . exact Nat.le_trans (Nat.le_succ _) (ask_drawn _ { w with drawn:=w.drawn + 1 })
theorem sys_drawn (w : World) (c : Sys) : w.drawn<=(w.sys c).2.drawn:=by
 unfold World.sys
 have h:=ask_drawn (Kernel.perform c w.os) w
 generalize w.ask (Kernel.perform c w.os)=x at *
 obtain ⟨⟨r,os⟩,w'⟩:=x
 cases r<;>first | exact h | exact Nat.le_refl _
theorem viewStore_drawn {P : Program} {w w' : World} {at_ u k v atomic l} (h : w.viewStore P at_ u k v atomic=.ok (w',l)) : w'.drawn=w.drawn:=by
 unfold World.viewStore at h
 simp only [bind,Except.bind,pure,Except.pure] at h
 repeat' split at h
 all_goals first | (cases h; done) | (cases h; rfl)
theorem farStore_drawn {P : Program} {w w' : World} {a v atomic l} (h : w.farStore P a v atomic=.ok (w',l)) : w'.drawn=w.drawn:=by
 unfold World.farStore at h
 split at h
 . split at h
   . rename_i h1; cases h; exact viewStore_drawn h1
   . cases h
 . cases h
theorem freeze_drawn (w : World) (a : Addr) (n : Nat) : (w.freeze a n).drawn=w.drawn:=by
 unfold World.freeze; split<;>rfl
theorem run_drawn {P : Program} {α : Type} (s : Sem α) : ∀ {w w' : World} {v : α},s.run P w=.ok v w'->w.drawn<=w'.drawn:=by
 induction s with
 | pure a => intro w w' v h; simp only [Sem.run] at h; cases h; exact Nat.le_refl _
 | load m a k ih =>
   intro w w' v h
   simp only [Sem.run] at h
   split at h
   . exact ih _ h
   . split at h
     . exact ih _ h
     . cases h
 | store m a u k ih =>
   intro w w' v h
   cases u<;>simp only [Sem.run] at h
   case agg => cases h
   case tuple => cases h
   all_goals
    split at h
    . split at h
      . cases h
      . have:=ih h; exact this
    . split at h
      . rename_i hf
        have:=ih h
        rw [farStore_drawn hf] at this
        exact this
      . cases h
 | new o k ih => intro w w' v h; simp only [Sem.run] at h; have:=ih _ h; exact this
 | shape r k ih => intro w w' v h; simp only [Sem.run] at h; exact ih _ h
 | freeze a n k ih => intro w w' v h; simp only [Sem.run] at h; have:=ih h; rwa [freeze_drawn] at this
 | frozen a k ih => intro w w' v h; simp only [Sem.run] at h; exact ih _ h
 | getObj r k ih =>
   intro w w' v h
   simp only [Sem.run] at h
   split at h
   . cases h
   . exact ih _ h
   . cases h
 | setObj r o k ih =>
   intro w w' v h
   simp only [Sem.run] at h
   split at h
   . cases h
   . have:=ih h; exact this
   . cases h
 | choose q k ih =>
   intro w w' v h
   simp only [Sem.run] at h
   split at h
   . exact ih _ h
   . exact Nat.le_trans (Nat.le_succ _) (ih _ h)
 | sys c k ih => intro w w' v h; simp only [Sem.run] at h; exact Nat.le_trans (sys_drawn w c) (ih _ h)
 | program k ih => intro w w' v h; simp only [Sem.run] at h; exact ih _ h
 | mark m k ih => intro w w' v h; simp only [Sem.run] at h; exact ih h
 | halt e => intro w w' v h; simp only [Sem.run] at h; cases h
structure Gb (w w' : World) (row : Option Nat) : Prop extends World.grownBy w w' row where
 drawn : dr w<=dr w'
theorem Gb.refl (w : World) (row : Option Nat) : Gb w w row:=⟨⟨rfl,rfl,rfl,Nat.le_refl _,fun _ _ _ => rfl⟩,Nat.le_refl _⟩

structure Fr (B : Nat) (M : Nat->Prop) (w0 w : World) : Prop where
 os : w.os=w0.os
 tape : w.tape=w0.tape
 output : w.output=w0.output
 le : B<=w.heap.size
 size : w0.heap.size<=w.heap.size
 block : ∀ g,g < B->¬ M g->w.heap[g]? = w0.heap[g]?
 drawn : dr w0<=dr w

def markD (D : Nat) : Deferred:={ target:=.collected D,args:=#[] }
structure MarksOK (S : Nat->Prop) (B : Nat->Prop) (w : World) (ds : List Deferred) : Prop where
 each : ∀ c ∈ ds,∃ D,c=markD D∧S D∧B D∧w.heap[D]? = some (.deferred (some []))
 apart : ds.Pairwise (· ≠ ·)
theorem MarksOK.move {S S' B : Nat->Prop} {w w' : World} {ds : List Deferred} (h : MarksOK S B w ds) (hm : ∀ g,S g->g < w.heap.size->S' g∧w'.heap[g]? = w.heap[g]?) : MarksOK S' B w' ds :=
 ⟨fun c hc => by
  obtain ⟨D,h1,h2,h3,h4⟩:=h.each c hc
  obtain ⟨h5,h6⟩:=hm D h2 (Array.getElem?_eq_some_iff.1 h4).1
  exact ⟨D,h1,h5,h3,h6.trans h4⟩,h.apart⟩
theorem MarksOK.nil {S B : Nat->Prop} {w : World} : MarksOK S B w []:=⟨by simp,.nil⟩

structure SimB (Z : Nat->Prop) (β : Nat->Value) (φ : Nat->Nat->Prop) (N B : Nat) (M : Nat->Prop) (w0 : World) (st : St) (a : Act) (w : World) : Prop where
 nd : MarksOK (free Z φ st.o) (fun g => B<=g∨M g) w a.defers
 size : a.tmps.size=N
 slots : ∀ i av,lk i st.s=some av->Rel β (free Z φ st.o) w av (a.tmps.getD i Go.undef)
 objs : ∀ j o,lk j st.o=some o->OK β (free Z φ st.o) w o (β j) (φ j)
 own : ∀ j o g,lk j st.o=some o->φ j g->B<=g∨M g
 disj : ∀ j j' o o' g,lk j st.o=some o->lk j' st.o=some o'->φ j g->φ j' g->j=j'
 fr : Fr B M w0 w
 z : ∀ g,B<=g∨M g->Z g
 gw : GS Z B M w0

def Sim (Z : Nat->Prop) (N B : Nat) (M : Nat->Prop) (w0 : World) (st : St) (a : Act) (w : World) : Prop:=∃ β φ,SimB Z β φ N B M w0 st a w

theorem Fr.grown {B M w0 w w'} {row : Option Nat} (h : Fr B M w0 w) (hg : Gb w w' row) (hr : ∀ g,row=some g->B<=g∨M g) : Fr B M w0 w':=by
 refine ⟨hg.os.trans h.os,hg.tape.trans h.tape,hg.output.trans h.output,Nat.le_trans h.le hg.size,Nat.le_trans h.size hg.size,fun g hgB hgM => ?_,Nat.le_trans h.drawn hg.drawn⟩
 rw [hg.block g (Nat.lt_of_lt_of_le hgB h.le) (fun e => ?_)]
 . exact h.block g hgB hgM
 . rcases hr g e.symm with h' | h'
   . omega
   . exact hgM h'

theorem ownsRow_same {w w' : World} {base e size v n xs} (h : w.ownsRow base e size v n xs) (hb : ∀ g,v.ownBlock=some g->w'.heap[g]? = w.heap[g]?) : w'.ownsRow base e size v n xs:=by
 refine ⟨h.1,?_⟩
 rcases h.2 with hn | ⟨g,cap,cur,rfl,hbg,hg,rest⟩
 . exact .inl hn
 . exact .inr ⟨g,cap,cur,rfl,hbg,(hb g rfl).trans hg,rest⟩

theorem OK.move {β : Nat->Value} {S S' : Nat->Prop} {w w' : World} (hm : ∀ g,S g->g < w.heap.size->S' g∧w'.heap[g]? = w.heap[g]?)
 {o v F} (hs : w.heap.size<=w'.heap.size) (hb : ∀ g,F g->w'.heap[g]? = w.heap[g]?) (h : OK β S w o v F) : OK β S' w' o v F:=by
 cases h with
 | box hF xs hv hw hr => subst hF; exact .box rfl xs hv (ownsRow_same hw hb) fun i hi => (hr i hi).move hm
 | arr hF xs hk0 hk hw hr => subst hF; exact .arr rfl xs hk0 hk (ownsRow_same hw hb) fun i hi => (hr i hi).move hm
 | arv hF xs hv hk0 hk hw hr => subst hF; exact .arv rfl xs hv hk0 hk (ownsRow_same hw hb) fun i hi => (hr i hi).move hm
 | dp hlt h => 
   refine .dp (fun g hg => Nat.lt_of_lt_of_le (hlt g hg) hs) ?_
   rcases h with h | ⟨e,k,xs,fs,ht,h⟩
   . exact .inl h
   . exact .inr ⟨e,k,xs,fs,ht,h.hk0,h.hk,ownsRow_same h.hw fun g hg => hb g (h.hb g hg).1,h.hb,h.hf,h.hd,fun i hi hn => (h.hr i hi hn).move fun g hg _ => hb g (h.hf i g hg),h.hh⟩
 | mp b ms c hF hv hbb he => subst hF; exact .mp b ms c rfl hv ((hb b (by rw [hv]; rfl)).trans hbb) he
 | arw hlt xs hk0 hk hw hbb hr hv =>
   refine .arw (fun g hg => Nat.lt_of_lt_of_le (hlt g hg) hs) xs hk0 hk (ownsRow_same hw fun g hg => hb g (hbb g hg)) hbb (fun i hi => (hr i hi).move hm) fun q n hq => ?_
   obtain ⟨h1,b,c,h2,h3,h4⟩:=hv q n hq
   exact ⟨h1,b,c,h2,h3,fun i hi => (World.cell?_of_block (hb b (h3 (Nat.pos_of_ne_zero fun e => by rw [e,Nat.zero_mul] at hi; omega)))).trans (h4 i hi)⟩
 | view hF b c hv => exact .view hF b c hv
 | d1 hlt h => exact .d1 (fun g hg => Nat.lt_of_lt_of_le (hlt g hg) hs) (h.move fun g hg _ => hb g hg)
 | res hv hc fs hr hf hd => exact .res hv (fun g hg => by rw [hb g hg]; exact hc g hg) fs (fun i hi => (hr i hi).move fun g hg _ => hb g (hf i g hg)) hf hd

theorem OK.block_lt {β S w o v F} (h : OK β S w o v F) {g} (hg : F g) : g < w.heap.size:=by
 cases h with
 | box hF xs hv hw hr => subst hF; exact (hw.lt g hg).2
 | arr hF xs hk0 hk hw hr => subst hF; exact (hw.lt g hg).2
 | arv hF xs hv hk0 hk hw hr => subst hF; exact (hw.lt g hg).2
 | dp hlt h => exact hlt g hg
 | mp b ms c hF hv hbb he => subst hF; subst hv; cases hg; exact (Array.getElem?_eq_some_iff.1 hbb).1
 | arw hlt xs hk0 hk hw hbb hr hv => exact hlt g hg
 | view hF b c hv => subst hF; exact hg.elim
 | d1 hlt h => exact hlt g hg
 | res hv hc fs hr hf hd => obtain ⟨_,_,_,h⟩:=hc g hg; exact (Array.getElem?_eq_some_iff.1 h).1

theorem SimB.gsM {Z β φ N B M w0 st a w} (h : SimB Z β φ N B M w0 st a w) {M' Z' : Nat->Prop} (hM : ∀ g,M' g->B<=g∨M g) (hZ : ∀ g,free Z φ st.o g->Z' g) : GS Z' w.heap.size M' w :=
 h.gw.sub h.fr.le (fun g hg hm => (hM g hm).resolve_left (by omega)) (fun g hg hm hz => hZ g ⟨hz,fun j o hj _ hgo => (h.own j o g hj hgo).elim (by omega) hm⟩) h.fr.block
theorem SimB.gs {Z β φ N B M w0 st a w} (h : SimB Z β φ N B M w0 st a w) : GS (free Z φ st.o) w.heap.size (fun _ => False) w:=h.gsM (fun _ h => h.elim) fun _ h => h
theorem SimB.grown {Z β φ N B M w0 st a w w'} (h : SimB Z β φ N B M w0 st a w) (hg : Gb w w' none) : SimB Z β φ N B M w0 st a w':=by
 have hb : ∀ g,g < w.heap.size->w'.heap[g]? = w.heap[g]? := fun g hlt => hg.block g hlt (by simp)
 exact ⟨h.nd.move fun g hg' hlt => ⟨hg',hb g hlt⟩,h.size,fun i av hi => (h.slots i av hi).move fun g hg' hlt => ⟨hg',hb g hlt⟩,
  fun j o hj => (h.objs j o hj).move (fun g hg' hlt => ⟨hg',hb g hlt⟩) hg.size (fun g hgo => hb g ((h.objs j o hj).block_lt hgo)),h.own,h.disj,h.fr.grown hg (by simp),h.z,h.gw⟩

theorem SimB.drawn {Z β φ N B M w0 st a w} (h : SimB Z β φ N B M w0 st a w) : SimB Z β φ N B M w0 st a { w with drawn:=w.drawn + 1 } :=
 h.grown ⟨⟨rfl,rfl,rfl,Nat.le_refl _,fun _ _ _ => rfl⟩,dr_mono (Nat.le_succ _)⟩

def St.put (st : St) (dst : Option Nat) (v : AV) : St :=
 match dst with
 | some d => { st with s:=ins d v st.s }
 | none => st

theorem SimB.put {Z β φ N B M w0 st a w} (h : SimB Z β φ N B M w0 st a w) {dst : Option Nat} {v : AV} {u : Value} (hd : ∀ d,dst=some d->d < N)
 (hr : Rel β (free Z φ st.o) w v u) : SimB Z β φ N B M w0 (st.put dst v) (a.put dst u) w:=by
 cases dst with
 | none => exact h
 | some d =>
   refine ⟨h.nd,by simp [Act.put,h.size],fun i av hi => ?_,h.objs,h.own,h.disj,h.fr,h.z,h.gw⟩
   have hi' : lk i (ins d v st.s)=some av:=hi
   rw [lk_ins] at hi'
   have hdN:=hd d rfl
   split at hi'
   . rename_i e
     subst e
     cases hi'
     have : (a.put (some i) u).tmps.getD i Go.undef=u:=by simp [Act.put,h.size,hdN]
     rw [this]; exact hr
   . rename_i hne
     have : (a.put (some d) u).tmps.getD i Go.undef=a.tmps.getD i Go.undef:=by
      simp [Act.put,Array.getElem?_setIfInBounds_ne (Ne.symm hne)]
     rw [this]; exact h.slots i av hi'

theorem SimB.sub {Z β φ N B M w0 st a w} (h : SimB Z β φ N B M w0 st a w) {s' : List (Nat × AV)} (hs : ∀ i av,lk i s'=some av->av=.undef∨lk i st.s=some av) :
 SimB Z β φ N B M w0 { st with s:=s' } a w :=
 ⟨h.nd,h.size,fun i av hi => by
  rcases hs i av hi with rfl | h'
  . exact .undef _
  . exact h.slots i av h',h.objs,h.own,h.disj,h.fr,h.z,h.gw⟩

mutual
def AV.has (j : Nat) : AV->Bool
 | .sl i => i == j
 | .p i _ => i == j
 | .pe i _ _ _ => i == j
 | .mq i => i == j
 | .sf i _ _ => i == j
 | .vw _ q _ _ => q == j
 | .pv _ q _ _ _ => q == j
 | .tup xs => AV.hasL j xs
 | .fn _ cs => AV.hasL j cs
 | .hdr i _ => i == j
 | .st xs => AV.hasL j xs
 | _ => false
def AV.hasL (j : Nat) : List AV->Bool
 | [] => false
 | x :: r => x.has j || AV.hasL j r
end
theorem AV.hasL_getD {j : Nat} : ∀ {xs : List AV},AV.hasL j xs=false->∀ i,(xs.getD i .undef).has j=false
 | [],_,i => by simp [AV.has]
 | x :: r, h, i => by
   simp only [AV.hasL,Bool.or_eq_false_iff] at h
   cases i with
   | zero => simpa using h.1
   | succ i => simpa using AV.hasL_getD h.2 i

theorem Rel.other {β β' : Nat->Value} {S w} {j : Nat} (hβ : ∀ i,i ≠ j->β' i=β i) : ∀ {av v},Rel β S w av v->av.has j=false->Rel β' S w av v:=by
 intro av v h
 induction h with
 | undef v => exact fun _ => .undef v
 | d h => exact fun _ => .d h
 | sl i => intro hh; simp [AV.has] at hh; rw [← hβ i hh]; exact .sl i
 | p h => intro hh; simp [AV.has] at hh; exact .p ((hβ _ hh).trans h)
 | pe h => intro hh; simp [AV.has] at hh; exact .pe ((hβ _ hh).trans h)
 | mq h => intro hh; simp [AV.has] at hh; exact .mq ((hβ _ hh).trans h)
 | sf h hl => intro hh; simp [AV.has] at hh; exact .sf ((hβ _ hh).trans h) hl
 | vw h => intro hh; simp [AV.has] at hh; exact .vw ((hβ _ hh).trans h)
 | pv h => intro hh; simp [AV.has] at hh; exact .pv ((hβ _ hh).trans h)
 | tup hl _ ih => intro hh; simp only [AV.has] at hh; exact .tup hl fun i hi => ih i hi (AV.hasL_getD hh i)
 | fn hl _ ih => intro hh; simp only [AV.has] at hh; exact .fn hl fun i hi => ih i hi (AV.hasL_getD hh i)
 | e0n => exact fun _ => .e0n
 | e0s ad => exact fun _ => .e0s ad
 | hdr h => intro hh; simp [AV.has] at hh; exact .hdr ((hβ _ hh).trans h)
 | nilS => exact fun _ => .nilS
 | st hl _ ih => intro hh; simp only [AV.has] at hh; exact .st hl fun i hi => ih i hi (AV.hasL_getD hh i)

def AO.wipe (j : Nat) : AO->AO
 | .arw e k es vs => .arw e k es (vs.filter fun p => p.1 != j)
 | .box e cells => .box e (cells.map fun c => if c.has j then .undef else c)
 | .dp t es (some (c,some d)) => .dp t es (if d=j then some (c,none) else some (c,some d))
 | x => x
def wipeS (j : Nat) : List (Nat × AV)->List (Nat × AV)
 | [] => []
 | (k,v) :: r => (k,if v.has j then .undef else v) :: wipeS j r
def wipeO (j : Nat) : List (Nat × AO)->List (Nat × AO)
 | [] => []
 | (k,v) :: r => if k=j then wipeO j r else (k,v.wipe j) :: wipeO j r
def St.kill (j : Nat) (st : St) : St:=⟨wipeS j st.s,wipeO j st.o⟩

theorem lk_wipeO {i j : Nat} : ∀ {l : List (Nat × AO)} {o},lk i (wipeO j l)=some o->i ≠ j∧∃ o',lk i l=some o'∧o=o'.wipe j
 | [],_,h => by simp [wipeO,lk] at h
 | (k, v) :: r, o, h => by
   simp only [wipeO] at h
   split at h
   . rename_i hk
     obtain ⟨h1,o',h2,h3⟩:=lk_wipeO h
     exact ⟨h1,o',by simp only [lk]; rw [if_neg (by omega)]; exact h2,h3⟩
   . rename_i hk
     simp only [lk] at h
     split at h
     . rename_i e; subst e; cases h; exact ⟨hk,v,by simp [lk],rfl⟩
     . rename_i e
       obtain ⟨h1,o',h2,h3⟩:=lk_wipeO h
       exact ⟨h1,o',by simp only [lk]; rw [if_neg e]; exact h2,h3⟩
theorem lk_wipeS {i j : Nat} : ∀ {l : List (Nat × AV)} {v},lk i (wipeS j l)=some v->v.has j=false∧(v=.undef∨lk i l=some v)
 | [],_,h => by simp [wipeS,lk] at h
 | (k, u) :: r, v, h => by
   simp only [wipeS,lk] at h
   simp only [lk]
   split at h
   . rename_i e
     rw [if_pos e]
     cases h
     split
     . exact ⟨rfl,.inl rfl⟩
     . rename_i hh; exact ⟨by simpa using hh,.inr rfl⟩
   . rename_i e; rw [if_neg e]; exact lk_wipeS h

theorem wipe_res {j : Nat} {o : AO} : (o.wipe j).isRes=o.isRes:=by
 unfold AO.wipe; split<;>rfl
theorem free_wipe {Z : Nat->Prop} {φ φ' : Nat->Nat->Prop} {o j} (hφ : ∀ i,i ≠ j->φ' i=φ i) {g} (h : free Z φ o g) : free Z φ' (wipeO j o) g:=by
 refine ⟨h.1,fun i x hi hx => ?_⟩
 obtain ⟨hne,o',ho',rfl⟩:=lk_wipeO hi
 rw [hφ i hne]
 exact h.2 i o' ho' (by rw [← wipe_res (j:=j)]; exact hx)

theorem OK.wipe {β β' : Nat->Value} {S w} {j : Nat} (hβ : ∀ i,i ≠ j->β' i=β i) {o v F} (h : OK β S w o v F) : OK β' S w (o.wipe j) v F:=by
 cases h with
 | box hF xs hv hw hr =>
   refine .box hF xs hv (by simpa [AO.wipe] using hw) fun i hi => ?_
   simp only [List.length_map] at hi
   have h1:=hr i hi
   simp only [List.getD_eq_getElem?_getD,List.getElem?_map,List.getElem?_eq_getElem hi,Option.map_some,Option.getD_some] at h1 ⊢
   split
   . exact .undef _
   . rename_i hh; exact h1.other hβ (by simpa using hh)
 | arr hF xs hk0 hk hw hr => exact .arr hF xs hk0 hk hw hr
 | arv hF xs hv hk0 hk hw hr => exact .arv hF xs hv hk0 hk hw hr
 | mp b ms c hF hv hbb he => exact .mp b ms c hF hv hbb he
 | res hv hlt fs hr hf hd => exact .res hv hlt fs hr hf hd
 | arw hlt xs hk0 hk hw hbb hr hv =>
   refine .arw hlt xs hk0 hk hw hbb hr fun q n hq => ?_
   obtain ⟨h1,h2⟩:=List.mem_filter.1 hq
   rw [hβ q (by simpa using h2)]
   exact hv q n h1
 | view hF b c hv => exact .view hF b c hv
 | d1 hlt h => exact .d1 hlt h
 | dp hlt h =>
   rename_i t es ho
   rcases h with ⟨rfl,rfl,rfl,h⟩ | ⟨e,k,xs,fs,ht,h⟩
   . exact .dp hlt (.inl ⟨rfl,rfl,rfl,h⟩)
   . rcases ho with _ | ⟨c,_ | d⟩
     . exact .dp hlt (.inr ⟨e,k,xs,fs,ht,{ h with hh:=fun _ _ h => by cases h }⟩)
     . exact .dp hlt (.inr ⟨e,k,xs,fs,ht,{ h with hh:=fun _ _ h => by cases h }⟩)
     . simp only [AO.wipe]
       split
       . exact .dp hlt (.inr ⟨e,k,xs,fs,ht,{ h with hr:=fun i hi hn => h.hr i hi fun c' d' e => by cases e; exact hn _ none rfl,hh:=fun _ _ h => by cases h }⟩)
       . rename_i hne
         exact .dp hlt (.inr ⟨e,k,xs,fs,ht,{ h with hh:=fun c' d' e => by cases e; rw [hβ _ hne]; exact h.hh _ _ rfl }⟩)

theorem SimB.kill {Z β β' φ φ' N B M w0 st a w} (h : SimB Z β φ N B M w0 st a w) (j : Nat) (hβ : ∀ i,i ≠ j->β' i=β i) (hφ : ∀ i,i ≠ j->φ' i=φ i) : SimB Z β' φ' N B M w0 (st.kill j) a w:=by
 have hS : ∀ g,free Z φ st.o g->free Z φ' (st.kill j).o g:=fun g hg => free_wipe hφ hg
 refine ⟨h.nd.move fun g hg _ => ⟨hS g hg,rfl⟩,h.size,fun i av hi => ?_,fun i o hi => ?_,fun i o g hi hg => ?_,fun i i' o o' g hi hi' hg hg' => ?_,h.fr,h.z,h.gw⟩
 . obtain ⟨h1,h2⟩:=lk_wipeS hi
   rcases h2 with rfl | h2
   . exact .undef _
   . exact ((h.slots i av h2).other hβ h1).move fun g hg _ => ⟨hS g hg,rfl⟩
 . obtain ⟨hne,o',ho',rfl⟩:=lk_wipeO hi
   rw [hβ i hne,hφ i hne]
   exact ((h.objs i o' ho').wipe hβ).move (fun g hg _ => ⟨hS g hg,rfl⟩) (Nat.le_refl _) (fun _ _ => rfl)
 . obtain ⟨hne,o',ho',_⟩:=lk_wipeO hi
   rw [hφ i hne] at hg
   exact h.own i o' g ho' hg
 . obtain ⟨hne,x,hx,_⟩:=lk_wipeO hi
   obtain ⟨hne',x',hx',_⟩:=lk_wipeO hi'
   rw [hφ i hne] at hg
   rw [hφ i' hne'] at hg'
   exact h.disj i i' x x' g hx hx' hg hg'

def upd (β : Nat->Value) (j : Nat) (v : Value) (i : Nat) : Value:=if i=j then v else β i
theorem upd_ne {β j v} : ∀ i,i ≠ j->upd β j v i=β i:=fun i h => by simp [upd,h]
theorem upd_eq {β j v} : upd β j v j=v:=by simp [upd]
def updF (φ : Nat->Nat->Prop) (j : Nat) (F : Nat->Prop) (i : Nat) : Nat->Prop:=if i=j then F else φ i
theorem updF_ne {φ j F} : ∀ i,i ≠ j->updF φ j F i=φ i:=fun i h => by simp [updF,h]
theorem updF_eq {φ j F} : updF φ j F j=F:=by simp [updF]

theorem SimB.layNew {Z β φ N B M w0 st a w w'} (h : SimB Z β φ N B M w0 st a w) {j : Nat} {o : AO} (hj : lk j st.o=none) (hg : Gb w w' none)
 (hnew : ∀ g,φ j g->w.heap.size<=g)
 (hok : ∀ S',(∀ av u,Rel β (free Z φ st.o) w av u->Rel β S' w' av u)->(∀ x u,Rd (free Z φ st.o) w x u->Rd S' w' x u)->OK β S' w' o (β j) (φ j)) :
 SimB Z β φ N B M w0 { st with o:=ins j o st.o } a w':=by
 have hb : ∀ g,g < w.heap.size->w'.heap[g]? = w.heap[g]? := fun g hlt => hg.block g hlt (by simp)
 have hm : ∀ g,free Z φ st.o g->g < w.heap.size->free Z φ (ins j o st.o) g∧w'.heap[g]? = w.heap[g]? := fun g hf hlt => by
  refine ⟨⟨hf.1,fun i x hi hx => ?_⟩,hb g hlt⟩
  rw [lk_ins] at hi
  split at hi
  . rename_i e; subst e; intro hgo; have:=hnew g hgo; omega
  . exact hf.2 i x hi hx
 refine ⟨h.nd.move hm,h.size,fun i av hi => (h.slots i av hi).move hm,fun i x hi => ?_,fun i x g hi hgo => ?_,fun i i' x x' g hi hi' hgo hgo' => ?_,h.fr.grown hg (by simp),h.z,h.gw⟩
 . have hi' : lk i (ins j o st.o)=some x:=hi
   rw [lk_ins] at hi'
   split at hi'
   . rename_i e; subst e; cases hi'; exact hok _ (fun _ _ hr => hr.move hm) (fun _ _ hr => hr.move hm)
   . exact (h.objs i x hi').move hm hg.size fun g hgo => hb g ((h.objs i x hi').block_lt hgo)
 . have hi' : lk i (ins j o st.o)=some x:=hi
   rw [lk_ins] at hi'
   split at hi'
   . rename_i e; subst e; exact .inl (Nat.le_trans h.fr.le (hnew g hgo))
   . exact h.own i x g hi' hgo
 . have h1 : lk i (ins j o st.o)=some x:=hi
   have h2 : lk i' (ins j o st.o)=some x':=hi'
   rw [lk_ins] at h1 h2
   split at h1<;>split at h2
   . rename_i e e'; exact e.trans e'.symm
   . rename_i e _; subst e; have:=hnew g hgo; have:=(h.objs i' x' h2).block_lt hgo'; omega
   . rename_i _ e; subst e; have:=hnew g hgo'; have:=(h.objs i x h1).block_lt hgo; omega
   . exact h.disj i i' x x' g h1 h2 hgo hgo'

theorem SimB.mod {Z β φ N B M w0 st a w w'} (h : SimB Z β φ N B M w0 st a w) {j : Nat} {o o0 : AO} (hj : lk j st.o=some o0) {row : Option Nat} (hg : Gb w w' row) (hrow : ∀ g,row=some g->φ j g)
 (hok : ∀ S',(∀ av u,Rel β (free Z φ st.o) w av u->Rel β S' w' av u)->(∀ x u,Rd (free Z φ st.o) w x u->Rd S' w' x u)->OK β S' w' o (β j) (φ j)) (h0 : o0.isRes=false:=by rfl) :
 SimB Z β φ N B M w0 { st with o:=ins j o st.o } a w':=by
 have hkeys : ∀ i x,lk i (ins j o st.o)=some x->∃ x',lk i st.o=some x'∧(i ≠ j->x'=x)∧(x.isRes=false->x'.isRes=false):=fun i x hi => by
  rw [lk_ins] at hi
  split at hi
  . rename_i e; subst e; exact ⟨o0,hj,fun hne => absurd rfl hne,fun _ => h0⟩
  . exact ⟨x,hi,fun _ => rfl,id⟩
 have hm : ∀ g,free Z φ st.o g->g < w.heap.size->free Z φ (ins j o st.o) g∧w'.heap[g]? = w.heap[g]? := fun g hf hlt => by
  refine ⟨⟨hf.1,fun i x hi hx => ?_⟩,hg.block g hlt fun e => hf.2 j o0 hj h0 (hrow g e.symm)⟩
  obtain ⟨x',hx',_,hxr⟩:=hkeys i x hi
  exact hf.2 i x' hx' (hxr hx)
 have hother : ∀ i x g,i ≠ j->lk i st.o=some x->φ i g->w'.heap[g]? = w.heap[g]? := fun i x g hne hi hgo =>
  hg.block g ((h.objs i x hi).block_lt hgo) fun e => hne (h.disj i j x o0 g hi hj hgo (hrow g e.symm))
 refine ⟨h.nd.move hm,h.size,fun i av hi => (h.slots i av hi).move hm,fun i x hi => ?_,fun i x g hi hgo => ?_,fun i i' x x' g hi hi' hgo hgo' => ?_,h.fr.grown hg fun g hgo => h.own j o0 g hj (hrow g hgo),h.z,h.gw⟩
 . have hi' : lk i (ins j o st.o)=some x:=hi
   rw [lk_ins] at hi'
   split at hi'
   . rename_i e; subst e; cases hi'; exact hok _ (fun _ _ hr => hr.move hm) (fun _ _ hr => hr.move hm)
   . rename_i hne; exact (h.objs i x hi').move hm hg.size fun g hgo => hother i x g hne hi' hgo
 . obtain ⟨x',hx',_⟩:=hkeys i x hi
   exact h.own i x' g hx' hgo
 . obtain ⟨y,hy,_⟩:=hkeys i x hi
   obtain ⟨y',hy',_⟩:=hkeys i' x' hi'
   exact h.disj i i' y y' g hy hy' hgo hgo'

theorem lk_wipeO_of {i j : Nat} (hne : i ≠ j) : ∀ {l : List (Nat × AO)} {o},lk i l=some o->lk i (wipeO j l)=some (o.wipe j)
 | [],_,h => by simp [lk] at h
 | (k, v) :: r, o, h => by
   simp only [lk] at h
   simp only [wipeO]
   split at h
   . rename_i e; subst e; cases h; rw [if_neg hne]; simp [lk]
   . rename_i e
     split
     . exact lk_wipeO_of hne h
     . simp only [lk]; rw [if_neg e]; exact lk_wipeO_of hne h

theorem SimB.redo {Z β φ N B M w0 st a w w'} (h : SimB Z β φ N B M w0 st a w) {j : Nat} {o o0 : AO} (hj : lk j st.o=some o0) {row : Option Nat} (hg : Gb w w' row) (hrow : ∀ g,row=some g->φ j g) (v' : Value) (F' : Nat->Prop)
 (hv : ∀ g,F' g->w.heap.size<=g∨φ j g)
 (hok : ∀ S',(∀ x u,Rd (free Z φ st.o) w x u->Rd S' w' x u)->OK (upd β j v') S' w' o v' F') (h0 : o0.isRes=false:=by rfl) :
 SimB Z (upd β j v') (updF φ j F') N B M w0 ⟨wipeS j st.s,ins j o (wipeO j st.o)⟩ a w':=by
 have hkeys : ∀ i x,lk i (ins j o (wipeO j st.o))=some x->(i=j∧x=o)∨(i ≠ j∧∃ x',lk i st.o=some x'∧x=x'.wipe j):=fun i x hi => by
  rw [lk_ins] at hi
  split at hi
  . rename_i e; subst e; cases hi; exact .inl ⟨rfl,rfl⟩
  . obtain ⟨h1,x',h2,h3⟩:=lk_wipeO hi; exact .inr ⟨h1,x',h2,h3⟩
 have hm : ∀ g,free Z φ st.o g->g < w.heap.size->free Z (updF φ j F') (ins j o (wipeO j st.o)) g∧w'.heap[g]? = w.heap[g]? := fun g hf hlt => by
  refine ⟨⟨hf.1,fun i x hi hx => ?_⟩,hg.block g hlt fun e => hf.2 j o0 hj h0 (hrow g e.symm)⟩
  rcases hkeys i x hi with ⟨rfl,_⟩ | ⟨hne,x',hx',rfl⟩
  . rw [updF_eq]; intro e
    rcases hv g e with h' | h'
    . omega
    . exact hf.2 i o0 hj h0 h'
  . rw [updF_ne i hne]; exact hf.2 i x' hx' (by rw [← wipe_res (j:=j)]; exact hx)
 have hother : ∀ i x g,i ≠ j->lk i st.o=some x->φ i g->w'.heap[g]? = w.heap[g]? := fun i x g hne hi hgo =>
  hg.block g ((h.objs i x hi).block_lt hgo) fun e => hne (h.disj i j x o0 g hi hj hgo (hrow g e.symm))
 refine ⟨h.nd.move hm,h.size,fun i av hi => ?_,fun i x hi => ?_,fun i x g hi hgo => ?_,fun i i' x x' g hi hi' hgo hgo' => ?_,h.fr.grown hg fun g hgo => h.own j o0 g hj (hrow g hgo),h.z,h.gw⟩
 . obtain ⟨h1,h2⟩:=lk_wipeS hi
   rcases h2 with rfl | h2
   . exact .undef _
   . exact ((h.slots i av h2).move hm).other upd_ne h1
 . rcases hkeys i x hi with ⟨rfl,rfl⟩ | ⟨hne,x',hx',rfl⟩
   . rw [upd_eq,updF_eq]; exact hok _ fun _ _ hr => hr.move hm
   . rw [upd_ne i hne,updF_ne i hne]
     exact ((h.objs i x' hx').move hm hg.size fun g hgo => hother i x' g hne hx' hgo).wipe upd_ne
 . rcases hkeys i x hi with ⟨rfl,rfl⟩ | ⟨hne,x',hx',rfl⟩
   . rw [updF_eq] at hgo
     rcases hv g hgo with h' | h'
     . exact .inl (Nat.le_trans h.fr.le h')
     . exact h.own i o0 g hj h'
   . rw [updF_ne i hne] at hgo; exact h.own i x' g hx' hgo
 . rcases hkeys i x hi with ⟨rfl,rfl⟩ | ⟨hne,y,hy,rfl⟩<;>rcases hkeys i' x' hi' with ⟨rfl,rfl⟩ | ⟨hne',y',hy',rfl⟩
   . rfl
   . rw [updF_eq] at hgo; rw [updF_ne i' hne'] at hgo'
     rcases hv g hgo with h' | h'
     . have:=(h.objs i' y' hy').block_lt hgo'; omega
     . exact h.disj i i' o0 y' g hj hy' h' hgo'
   . rw [updF_eq] at hgo'; rw [updF_ne i hne] at hgo
     rcases hv g hgo' with h' | h'
     . have:=(h.objs i y hy).block_lt hgo; omega
     . exact h.disj i i' y o0 g hy hj hgo h'
   . rw [updF_ne i hne] at hgo; rw [updF_ne i' hne'] at hgo'
     exact h.disj i i' y y' g hy hy' hgo hgo'
theorem SimB.regroup {Z β β' φ φ' N B M w0 st a w} (h : SimB Z β φ N B M w0 st a w) {s' : List (Nat × AV)} {o' : List (Nat × AO)} {w' : World} (D E : Nat->Prop)
 (hos : w'.os=w.os) (htp : w'.tape=w.tape) (hou : w'.output=w.output) (hsz : w.heap.size<=w'.heap.size) (hdr : dr w<=dr w')
 (hblk : ∀ g,g < w.heap.size->(∀ j x,D j->lk j st.o=some x->x.isRes=false->¬ φ j g)->w'.heap[g]? = w.heap[g]?)
 (hs : ∀ i av,lk i s'=some av->av=.undef∨(lk i st.s=some av∧∀ v,Rel β (free Z φ st.o) w av v->Rel β' (free Z φ st.o) w av v))
 (ho : ∀ j x,lk j o'=some x->(¬ D j∧φ' j=φ j∧β' j=β j∧∃ y,lk j st.o=some y∧y.isRes=x.isRes∧∀ S w v F,OK β S w y v F->OK β' S w x v F) ∨
  (E j∧(∀ g,φ' j g->w.heap.size<=g∨∃ i y,D i∧lk i st.o=some y∧y.isRes=false∧φ i g)∧∀ S',(∀ x u,Rd (free Z φ st.o) w x u->Rd S' w' x u)->OK β' S' w' x (β' j) (φ' j)))
 (hdis : ∀ j j' g,E j->E j'->φ' j g->φ' j' g->j=j') : SimB Z β' φ' N B M w0 ⟨s',o'⟩ a w':=by
 have hm : ∀ g,free Z φ st.o g->g < w.heap.size->free Z φ' o' g∧w'.heap[g]? = w.heap[g]? := fun g hf hlt => by
  refine ⟨⟨hf.1,fun j x hj hx => ?_⟩,hblk g hlt fun j x _ hj hx => hf.2 j x hj hx⟩
  rcases ho j x hj with ⟨_,e1,_,y,hy,hyr,_⟩ | ⟨_,h1,_⟩
  . rw [e1]; exact hf.2 j y hy (hyr.trans hx)
  . intro hg
    rcases h1 g hg with h2 | ⟨i,y,hDi,hy,hyr,h2⟩
    . omega
    . exact hf.2 i y hy hyr h2
 have hkeep : ∀ j y g,¬ D j->lk j st.o=some y->φ j g->w'.heap[g]? = w.heap[g]? := fun j y g hD hy hg =>
  hblk g ((h.objs j y hy).block_lt hg) fun i x hi hx _ hg' => hD ((h.disj j i y x g hy hx hg hg') ▸ hi)
 refine ⟨h.nd.move hm,h.size,fun i av hi => ?_,fun j x hj => ?_,fun j x g hj hg => ?_,fun j j' x x' g hj hj' hg hg' => ?_,⟨hos.trans h.fr.os,htp.trans h.fr.tape,hou.trans h.fr.output,Nat.le_trans h.fr.le hsz,Nat.le_trans h.fr.size hsz,fun g hgB hgM => ?_,Nat.le_trans h.fr.drawn hdr⟩,h.z,h.gw⟩
 . rcases hs i av hi with rfl | ⟨h1,h2⟩
   . exact .undef _
   . exact (h2 _ (h.slots i av h1)).move hm
 . rcases ho j x hj with ⟨hD,e1,e2,y,hy,_,h1⟩ | ⟨_,_,h1⟩
   . show OK β' _ w' x (β' j) (φ' j)
     rw [e1,e2]
     exact h1 _ _ _ _ ((h.objs j y hy).move hm hsz fun g hg => hkeep j y g hD hy hg)
   . exact h1 _ fun _ _ hr => hr.move hm
 . rcases ho j x hj with ⟨hD,e1,e2,y,hy,_,h1⟩ | ⟨_,h1,_⟩
   . rw [e1] at hg; exact h.own j y g hy hg
   . rcases h1 g hg with h2 | ⟨i,y,_,hy,_,h2⟩
     . exact .inl (Nat.le_trans h.fr.le h2)
     . exact h.own i y g hy h2
 . have cross : ∀ {j j' y},¬ D j->lk j st.o=some y->φ j g->(∀ g,φ' j' g->w.heap.size<=g∨∃ i y,D i∧lk i st.o=some y∧y.isRes=false∧φ i g)->φ' j' g->False:=by
    intro j j' y hD hy hg h1 hg'
    rcases h1 g hg' with h2 | ⟨i,z,hi,hz,_,h2⟩
    . have:=(h.objs j y hy).block_lt hg; omega
    . exact hD ((h.disj j i y z g hy hz hg h2) ▸ hi)
   rcases ho j x hj with ⟨hD,e1,e2,y,hy,_,h1⟩ | ⟨hE,h1,_⟩<;>rcases ho j' x' hj' with ⟨hD',e1',e2',y',hy',_,h1'⟩ | ⟨hE',h1',_⟩
   . rw [e1] at hg; rw [e1'] at hg'; exact h.disj j j' y y' g hy hy' hg hg'
   . rw [e1] at hg; exact (cross hD hy hg h1' hg').elim
   . rw [e1'] at hg'; exact (cross hD' hy' hg' h1 hg).elim
   . exact hdis j j' g hE hE' hg hg'
 . refine (hblk g (Nat.lt_of_lt_of_le hgB h.fr.le) fun j x _ hx _ hg => ?_).trans (h.fr.block g hgB hgM)
   rcases h.own j x g hx hg with h1 | h1
   . omega
   . exact hgM h1
end Abs

namespace Abs
open Go Go.RowKit

def mpAt (n : Int) : List (Int × Int)->Option Int
 | [] => none
 | (a,b) :: r => if n=a then some b else mpAt n r
def mpIx (n : Int) : List (Int × Int)->Nat
 | [] => 0
 | (a,_) :: r => if n=a then 0 else mpIx n r + 1
def mpPut (n v : Int) : List (Int × Int)->List (Int × Int)
 | [] => [(n,v)]
 | (a,b) :: r => if n=a then (a,v) :: r else (a,b) :: mpPut n v r

theorem findNow_mp {q r : IntKind} (n : Int) : ∀ (ms : List MapEntry) (es : List (Int × Int)) (i : Nat),ms.map (fun m => (m.key,m.val))=es.map (fun p => (Value.int q p.1,Value.int r p.2)) ->
 Instr.findNow (.int q) (.int q n) ms i=some ((mpAt n es).map fun v => (i + mpIx n es,Value.int r v))
 | [],[],i,_ => rfl
 | [],_ :: _,_,h => by simp at h
 | _ :: _,[],_,h => by simp at h
 | m :: ms, (a, b) :: es, i, h => by
   simp only [List.map_cons,List.cons.injEq,Prod.mk.injEq] at h
   obtain ⟨⟨hk,hv⟩,h⟩:=h
   simp only [Instr.findNow,hk,Instr.sameNow,if_pos,mpAt,mpIx]
   by_cases e : n=a
   . subst e; simp [hv]
   . have : (n == a)=false:=by simpa using e
     simp only [this,if_neg e]
     rw [findNow_mp n ms es (i + 1) h]
     cases mpAt n es<;>simp [Nat.add_assoc,Nat.add_comm,Nat.add_left_comm]

def mapT (P : Program) (t : TypeId) : Option (IntKind × IntKind) :=
 match P.underlying t with
 | some (.map k e) => match P.underlying k, (P.info? e).bind (·.zero) with
   | some (.int q),some (.int r z) => if z=0 then some (q,r) else none
   | _,_ => none
 | _ => none
theorem mapT_spec {P : Program} {t : TypeId} {q r : IntKind} (h : mapT P t=some (q,r)) : ∃ k e,P.underlying t=some (.map k e)∧P.underlying k=some (.int q)∧∀ w,(zeroValue e).run P w=.ok (.int r 0) w:=by
 unfold mapT at h
 split at h
 . rename_i k e ht
   split at h
   . rename_i q' r' z hk he
     split at h
     . rename_i hz
       cases h; subst hz
       obtain ⟨i,hi,hiz⟩:=Option.bind_eq_some_iff.1 he
       exact ⟨k,e,ht,hk,fun w => by simp [zeroValue,typeInfo,hi,hiz]⟩
     . cases h
   . cases h
 . cases h

theorem run_lookup_mp {P : Program} {w : World} {t : TypeId} {q r : IntKind} (ht : mapT P t=some (q,r))
 {b c : Nat} {ms : Array MapEntry} {es : List (Int × Int)} (hb : w.heap[b]? = some (.map ms c)) (hes : ms.toList.map (fun m => (m.key,m.val))=es.map fun p => (Value.int q p.1,Value.int r p.2)) (n : Int) (co : Bool) :
 (Instr.lookup t (.map (some b)) (.int q n) co).run P w=.ok (if co then .tuple #[.int r ((mpAt n es).getD 0),.bool (mpAt n es).isSome] else .int r ((mpAt n es).getD 0)) w:=by
 obtain ⟨k,e,ht,hk,hz⟩:=mapT_spec ht
 have h1:=MapKept.run_findKey (P:=P) (w:=w) hk (findNow_mp (q:=q) (r:=r) n ms.toList es 0 hes)
 have h2 : ∀ em,(Instr.checkKey em 10000 k (.int q n)).run P w=.ok () w:=fun em => MapKept.run_checkKey hk (by simp [MapKept.IsKey]) em 9999
 cases hm : mpAt n es with
 | none => simp [Instr.lookup,run_underlying ht,MapKept.run_getObj_map hb,h2,h1,hm,hz,Result.andThen]
 | some v => simp [Instr.lookup,run_underlying ht,MapKept.run_getObj_map hb,h2,h1,hm,Result.andThen]
theorem mpPut_ix {q r : IntKind} {n v : Int} : ∀ (ms : List MapEntry) (es : List (Int × Int)),ms.map (fun m => (m.key,m.val))=es.map (fun p => (Value.int q p.1,Value.int r p.2))->∀ x,mpAt n es=some x ->
 (ms.modify (mpIx n es) fun m => { m with key:=.int q n,val:=.int r v }).map (fun m => (m.key,m.val))=(mpPut n v es).map fun p => (Value.int q p.1,Value.int r p.2)
 | [],[],_,_,hx => by simp [mpAt] at hx
 | [],_ :: _,h,_,_ => by simp at h
 | _ :: _,[],h,_,_ => by simp at h
 | m :: ms, (a, b) :: es, h, x, hx => by
   simp only [List.map_cons,List.cons.injEq,Prod.mk.injEq] at h
   obtain ⟨⟨hk,hv⟩,h⟩:=h
   simp only [mpAt] at hx
   simp only [mpIx,mpPut]
   by_cases e : n=a
   . subst e; simp [h]
   . rw [if_neg e] at hx
     simp only [if_neg e,List.modify_succ_cons,List.map_cons,hk,hv,mpPut_ix ms es h x hx]
theorem mpPut_new {n v : Int} : ∀ es : List (Int × Int),mpAt n es=none->mpPut n v es=es++[(n,v)]
 | [],_ => rfl
 | (a, b) :: es, h => by
   simp only [mpAt] at h
   by_cases e : n=a
   . rw [if_pos e] at h; cases h
   . rw [if_neg e] at h
     simp only [mpPut,if_neg e,mpPut_new es h,List.cons_append]
theorem mpIx_key {q r : IntKind} {n : Int} : ∀ (ms : List MapEntry) (es : List (Int × Int)),ms.map (fun m => (m.key,m.val))=es.map (fun p => (Value.int q p.1,Value.int r p.2))->∀ x,mpAt n es=some x ->
 (ms[mpIx n es]?).map (·.key)=some (.int q n)
 | [],[],_,_,hx => by simp [mpAt] at hx
 | [],_ :: _,h,_,_ => by simp at h
 | _ :: _,[],h,_,_ => by simp at h
 | m :: ms, (a, b) :: es, h, x, hx => by
   simp only [List.map_cons,List.cons.injEq,Prod.mk.injEq] at h
   obtain ⟨⟨hk,hv⟩,h⟩:=h
   simp only [mpAt] at hx
   simp only [mpIx]
   by_cases e : n=a
   . subst e; simp [hk]
   . rw [if_neg e] at hx
     simp only [if_neg e,List.getElem?_cons_succ,mpIx_key ms es h x hx]

theorem run_update_mp {P : Program} {w : World} {t : TypeId} {q r : IntKind} (ht : mapT P t=some (q,r))
 {b c : Nat} {ms : Array MapEntry} {es : List (Int × Int)} (hb : w.heap[b]? = some (.map ms c)) (hes : ms.toList.map (fun m => (m.key,m.val))=es.map fun p => (Value.int q p.1,Value.int r p.2)) (n v : Int) :
 ∃ ms' c',(Instr.mapUpdate t (.map (some b)) (.int q n) (.int r v)).run P w=.ok () { w with heap:=w.heap.setIfInBounds b (.map ms' c') }∧ms'.toList.map (fun m => (m.key,m.val))=(mpPut n v es).map fun p => (Value.int q p.1,Value.int r p.2):=by
 obtain ⟨k,e,ht,hk,_⟩:=mapT_spec ht
 have h1:=MapKept.run_findKey (P:=P) (w:=w) hk (findNow_mp (q:=q) (r:=r) n ms.toList es 0 hes)
 have h2 : ∀ em,(Instr.checkKey em 10000 k (.int q n)).run P w=.ok () w:=fun em => MapKept.run_checkKey hk (by simp [MapKept.IsKey]) em 9999
 have h3 : (Instr.keyThatStays (.int q n) (.int q n)).run P w=.ok (.int q n) w:=MapKept.run_keyThatStays (d:=.int q) (by simp [MapKept.IsKey])
 cases hm : mpAt n es with
 | none =>
   refine ⟨ms.push ⟨.int q n,.int r v,c⟩,c + 1,?_,?_⟩
   . simp [Instr.mapUpdate,run_underlying ht,MapKept.run_getObj_map hb,h2,h1,hm,Result.andThen,MapKept.run_setObj_map _ hb]
   . rw [mpPut_new es hm]; simp [hes]
 | some x =>
   have h4:=mpIx_key _ _ hes x hm
   refine ⟨ms.modify (mpIx n es) fun m => { m with key:=.int q n,val:=.int r v },c,?_,?_⟩
   . have h5 : (Option.map (fun m : MapEntry => m.key) ms[mpIx n es]?).getD (.int q n)=.int q n:=by
      have : ms[mpIx n es]? = ms.toList[mpIx n es]? := by simp
      rw [this,h4]; rfl
     simp [Instr.mapUpdate,run_underlying ht,MapKept.run_getObj_map hb,h2,h1,hm,Result.andThen,h5,h3,MapKept.run_setObj_map _ hb]
   . simpa using mpPut_ix (v:=v) _ _ hes x hm
end Abs
