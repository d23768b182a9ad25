/- What functions of this program compute, over plain data. No condition. -/
import Derived.Test.YtdohpocdlkcaoaaGreatAbsOwn
import Derived.Test.YtdohpocdlkcaoaaGreatAbsBox
set_option linter.all false
namespace Abs
open Go Go.RowKit

theorem Dp.onlyC {w x v F} (h : Dp w x v F) : Dp w x v (fun g => F g∧∃ cs e r,w.heap[g]? = some (.cells cs e r)):=by
 induction h with
 | int k n => exact .int k n _
 | bool b => exact .bool b _
 | str s => exact .str s _
 | nil v _ h => exact .nil v _ h
 | sl1 _ h0 ih =>
   refine .sl1 ih fun e => (h0 e).imp id fun ⟨e,h1,h2⟩ => ⟨e,h1,fun b hb => ⟨h2 b hb,?_⟩⟩
   rcases h1.2 with ⟨h3,_⟩ | ⟨g,cap,cur,h3,_,h4,_⟩
   . rw [h3] at hb; cases hb
   . rw [h3] at hb; cases hb; exact ⟨_,_,_,h4⟩
 | slice xs fs hk0 hk hw hb hf hd _ ih =>
   rename_i es v F e k _
   have hown : ∀ b,v.ownBlock=some b->∃ cs e r,w.heap[b]? = some (.cells cs e r):=fun b hbb => by
    rcases hw.2 with ⟨h1,_⟩ | ⟨g,cap,cur,h1,_,h3,_⟩
    . rw [h1] at hbb; cases hbb
    . rw [h1] at hbb; cases hbb; exact ⟨_,_,_,h3⟩
   exact .slice xs (fun i g => fs i g∧∃ cs e r,w.heap[g]? = some (.cells cs e r)) hk0 hk hw (fun b hbb => ⟨⟨(hb b hbb).1,hown b hbb⟩,fun i h => (hb b hbb).2 i h.1⟩) (fun i g h => ⟨hf i g h.1,h.2⟩) (fun i j g h h' => hd i j g h.1 h'.1) ih
theorem Ok.go {P : Program} {N : Nat} {c : Code} {Q : Exit->St->Prop} {st : St} (h : Awp P N c Q st) : Ok P N c Q st:=by
 rw [Awp_eq] at h; exact ok_of_awp _ _ _ h
theorem Ok.seq {P : Program} {N : Nat} {x y : Code} {Q : Exit->St->Prop} {st : St} (h : Ok P N x (seqQ (fun st => Ok P N y Q st) Q) st) : Ok P N (.seq x y) Q st:=fun h1 h2 Z B M w0 a w hs => by
 simp only [codeOK,Bool.and_eq_true] at h1
 refine sw_mono x (h h1.1 h2 Z B M w0 a w hs) fun e a' w' hl => ?_
 cases e with
 | normal =>
   simp only [lift] at hl
   obtain ⟨st1,hs1,hy⟩:=hl
   exact hy h1.2 h2 Z B M w0 a' w' hs1
 | exit id => exact hl
 | ret => exact hl
 | _ => exact hl
theorem Ok.endsW {P : Program} {N : Nat} {c : Code} {Q : Exit->St->Prop} {st : St} (h : Ok P N c (fun e st => ∃ st',Wk N st st'∧Q e st') st) : Ok P N c Q st:=fun h1 h2 Z B M w0 a w hs =>
 sw_mono c (h h1 h2 Z B M w0 a w hs) fun e a w hl => by
  cases e<;>simp only [lift] at hl ⊢<;>(try exact hl.elim) <;>
  . obtain ⟨st1,⟨β,φ,hs1⟩,st2,hw,hq⟩:=hl
    obtain ⟨β',φ',hs2⟩:=hw _ _ _ _ _ _ _ _ hs1
    exact ⟨st2,⟨β',φ',hs2⟩,hq⟩

def tagC (u : Value) : D->D
 | .slice (x :: r) => .tag u (x :: r)
 | c => c
def D.unt : D->D
 | .tag _ es => .slice es
 | c => c
def mapCells (f : Nat->D->D) (k : Nat) (es : List D) : List D:=es.zipIdx.map fun p => match p.1 with
 | .agg cs => .agg (cs.zipIdx.map fun q => f (p.2 * k + q.2) q.1)
 | c => f (p.2 * k) c
def tagE (us : Nat->Value) (k : Nat) (es : List D) : List D:=mapCells (fun i c => tagC (us i) c) k es
def resOf (us : Nat->Value) (es : List D) : List (Value × List D):=(flat es).zipIdx.map fun p => match p.1 with
 | .slice (x :: r) => (us p.2,x :: r)
 | _ => (.slice none 0 0,[])
theorem Wk.thaw {N : Nat} {S S' : List (Nat × AV)} {O O' : List (Nat × AO)} (j r : Nat) {e : TypeId} {k : Nat} {es' : List D} {rs : List (Value × List D)} (hj : lk j O=some (.arr e k es')) (hr : lk r O=some (.res rs)) (es : List D) (σ : Nat->Nat)
 (hk : ∀ x ∈ es,x.cells.length=k) (hlen : es.length=es'.length)
 (hc : ∀ i,i < (flat es).length->((flat es').getD i .nilptr=(flat es).getD i .nilptr∧((flat es).getD i .nilptr).bare=true) ∨
  ∃ u ys,(flat es').getD i .nilptr=.tag u ys∧(flat es).getD i .nilptr=.slice ys∧σ i < rs.length∧rs.getD (σ i) (.slice none 0 0,[])=(u,ys))
 (hσ : ∀ i i',i < (flat es).length->i' < (flat es).length->((flat es').getD i .nilptr).bare=false->((flat es').getD i' .nilptr).bare=false->σ i=σ i'->i=i')
 (hS : ∀ p ∈ S',lk p.1 S=some p.2∧p.2.plain) (hO : ∀ p ∈ O',(p.1=j∧p.2=.dp (some (e,k)) es none)∨(p.1 ≠ j∧p.1 ≠ r∧lk p.1 O=some p.2∧p.2.plain)) :
 Wk N ⟨S,O⟩ ⟨S',O'⟩:=fun Z β φ B M w0 a w hs => by
 have hOj:=hs.objs j _ hj
 have hOr:=hs.objs r _ hr
 have hjr : j ≠ r:=fun h => by subst h; have:=hj.symm.trans hr; cases this
 have hdis : ∀ g,φ j g->φ r g->False:=fun g h1 h2 => hjr (hs.disj j r _ _ g hj hr h1 h2)
 let φ':=updF φ j (fun g => φ j g∨φ r g)
 have e1 : φ' j=fun g => φ j g∨φ r g:=updF_eq
 have e3 : ∀ i,i ≠ j->φ' i=φ i:=fun i h => updF_ne i h
 have hko : ∀ {i x},lk i O'=some x->(i=j∧x=.dp (some (e,k)) es none)∨(i ≠ j∧i ≠ r∧lk i O=some x∧x.plain):=fun h => hO _ (lk_some_mem h)
 refine ⟨β,φ',⟨fun d hd => ?_,hs.nd.apart⟩,hs.size,fun i av hi => ?_,fun i x hi => ?_,fun i x g hi hg => ?_,fun i i' x x' g hi hi' hg hg' => ?_,hs.fr,hs.z⟩
 . obtain ⟨D0,h1,h2,h3,h4⟩:=hs.nd.each d hd
   refine ⟨D0,h1,⟨h2.1,fun i x hi hx hg => ?_⟩,h3,h4⟩
   rcases hko hi with ⟨rfl,rfl⟩ | ⟨h5,_,h6,_⟩
   . rw [e1] at hg
     rcases hg with hg | hg
     . exact h2.2 i _ hj rfl hg
     . cases hOr with
       | res _ hcc _ _ _ _ =>
         obtain ⟨_,_,_,h7⟩:=hcc _ hg
         rw [h4] at h7; cases h7
   . rw [e3 i h5] at hg; exact h2.2 i x h6 hx hg
 . obtain ⟨h1,h2⟩:=hS _ (lk_some_mem hi)
   exact (hs.slots i av h1).plain h2
 . rcases hko hi with ⟨rfl,rfl⟩ | ⟨h5,_,h6,h7⟩
   . rw [e1]
     generalize φ i=Fj at *
     generalize φ r=Fr' at *
     cases hOj with
     | arr hF xs hk0 hk' hw hrd =>
       cases hOr with
       | res hv hcc fr hfr hff hfd =>
         have fl:=flat_length hk
         have fl':=flat_length hk'
         have hxl:=hw.1
         have hrd':=hrd
         refine .dp (fun g hg => ?_) (.inr ⟨e,k,xs,fun n g => (n < (flat es).length∧((flat es').getD n .nilptr).bare=false)∧fr (σ n) g,.inr rfl,hk0,hk,by rw [hlen]; exact hw,fun b hb => ⟨.inl (by rw [hF]; exact hb),fun n h => hdis b (by rw [hF]; exact hb) (hff _ _ h.2)⟩,fun n g h => .inr (hff _ _ h.2),
          fun n n' g h h' => hσ n n' h.1.1 h'.1.1 h.1.2 h'.1.2 (hfd _ _ g h.2 h'.2),fun n hn _ => ?_,fun _ _ h => by cases h⟩)
         . rcases hg with hg | hg
           . subst hF; exact (hw.lt g hg).2
           . obtain ⟨_,_,_,h7⟩:=hcc g hg; exact (Array.getElem?_eq_some_iff.1 h7).1
         . have hn' : n < (flat es').length:=by rw [fl',← hlen,← fl]; exact hn
           have hR:=hrd' n hn'
           rcases hc n hn with ⟨h1,h2⟩ | ⟨u,ys,h1,h2,h3,h4⟩
           . rw [h1] at hR
             exact dp_bare h2 hR
           . rw [h1] at hR
             rw [h2]
             have hD:=hfr (σ n) h3
             rw [h4] at hD
             cases hR with
             | tag _ => exact hD.mono fun g hg => ⟨⟨hn,by rw [h1]; rfl⟩,hg⟩
   . rw [e3 i h5]
     exact (hs.objs i x h6).plain h7
 . rcases hko hi with ⟨rfl,rfl⟩ | ⟨h5,_,h6,_⟩
   . rw [e1] at hg
     exact hg.elim (fun hg => hs.own i _ g hj hg) fun hg => hs.own r _ g hr hg
   . rw [e3 i h5] at hg; exact hs.own i x g h6 hg
 . rcases hko hi with ⟨rfl,rfl⟩ | ⟨h5,h5r,h6,_⟩<;>rcases hko hi' with ⟨rfl,rfl⟩ | ⟨h5',h5r',h6',_⟩
   . rfl
   . rw [e1] at hg; rw [e3 i' h5'] at hg'
     rcases hg with hg | hg
     . exact hs.disj i i' _ x' g hj h6' hg hg'
     . exact absurd (hs.disj i' r x' _ g h6' hr hg' hg) h5r'
   . rw [e1] at hg'; rw [e3 i h5] at hg
     rcases hg' with hg' | hg'
     . exact hs.disj i i' x _ g h6 hj hg hg'
     . exact absurd (hs.disj i r x _ g h6 hr hg hg') h5r
   . rw [e3 i h5] at hg; rw [e3 i' h5'] at hg'
     exact hs.disj i i' x x' g h6 h6' hg hg'

abbrev Tg:=Value × List Int
def D.tg (p : Tg) : D:=tagC p.1 (.slice (p.2.map (.int .i64)))
def resP (p : Tg) : Value × List D:=match p.2 with
 | [] => (.slice none 0 0,[])
 | x :: r => (p.1,(x :: r).map (.int .i64))
def tgs (us : Nat->Value) (cs : List (List Int)) : List Tg:=cs.zipIdx.map fun p => (us p.2,p.1)
mutual
def D.strip : D->D
 | .tag _ es => .slice es
 | .agg cs => .agg (D.stripL cs)
 | x => x
def D.stripL : List D->List D
 | [] => []
 | x :: r => x.strip :: D.stripL r
end
theorem stripL_len : ∀ cs : List D,(D.stripL cs).length=cs.length
 | [] => rfl
 | x :: r => by simp [D.stripL,stripL_len r]
theorem stripL_getD : ∀ (cs : List D) (i : Nat),i < cs.length->(D.stripL cs).getD i .nilptr=(cs.getD i .nilptr).strip
 | [],i,h => by simp at h
 | x :: r,0,_ => by simp [D.stripL]
 | x :: r,i + 1,h => by simpa [D.stripL] using stripL_getD r i (by simpa using h)
theorem Rd.strip {S w} : ∀ {x v},Rd S w x v->Rd S w x.strip v:=by
 intro x v h
 induction h with
 | tag h _ => exact h
 | sl1 h _ => exact .sl1 h
 | agg hl _ ih => exact .agg (by rw [stripL_len]; exact hl) fun i hi => by rw [stripL_len] at hi; rw [stripL_getD _ _ hi]; exact ih i hi
 | int k n => exact .int k n
 | bool b => exact .bool b
 | str s => exact .str s
 | nil a => exact .nil a
 | slice vs hk hcap hc hr => exact .slice vs hk hcap hc hr
 | ptr vs hc hr => exact .ptr vs hc hr
 | nilptr => exact .nilptr
 | fn hl hl' hr hr' => exact .fn hl hl' hr hr'
 | nilfn => exact .nilfn
 | tup hl hr => exact .tup hl hr
 | map ms hS hb he => exact .map ms hS hb he
 | nilmap => exact .nilmap
theorem Ctr.strip {P : Program} {f : FuncId} {xs ys : List D} {sh : Bool} {res : AV} {oo : List (Nat × AO)} (h : Ctr P f xs sh res oo) (hy : D.stripL ys=xs) : Ctr P f ys sh res oo:=by
 subst hy
 refine ⟨h.1,fun S w vs hl hr => h.2 S w vs (by rw [stripL_len]; exact hl) fun i hi => ?_⟩
 rw [stripL_len] at hi
 rw [stripL_getD _ _ hi]
 exact (hr i hi).strip
end Abs

namespace Abs
open Go Go.RowKit

theorem Ok.tagRow {P : Program} {N : Nat} {c : Code} {Q : Exit->St->Prop} {S : List (Nat × AV)} {O : List (Nat × AO)} (j t : Nat) {e : TypeId} {k : Nat} {es : List D} {av : AV} (hj : lk j O=some (.arr e k es)) (hb : ∀ x ∈ flat es,x.bare=true) (ht : lk t S=some av)
 (X : Value->D) (hX : ∀ u β F w v,β j=u->Rd F w (.slice es) u->Rel β F w av v->Rd F w (X u) v)
 (h : ∀ u,Ok P N c Q ⟨ins t (.d (X u)) (wipeS j S),ins j (.res [(u,es)]) (wipeO j O)⟩) : Ok P N c Q ⟨S,O⟩:=fun h1 h2 Z B M w0 a w ⟨β,φ,hs⟩ => by
 have hO:=hs.objs j _ hj
 have hD : Dp w (.slice es) (β j) (fun g => φ j g∧∃ cs e r,w.heap[g]? = some (.cells cs e r)):=by
  have:=hO.deep hb
  cases this with
  | dp _ h => exact h.dp.onlyC
 let G : Nat->Prop:=fun g => φ j g∧∃ cs e r,w.heap[g]? = some (.cells cs e r)
 let β':=upd β j (.slice none 0 0)
 let φ':=updF φ j G
 have e1 : φ' j=G:=updF_eq
 have e3 : ∀ i,i ≠ j->φ' i=φ i:=fun i h3 => updF_ne i h3
 have b3 : ∀ i,i ≠ j->β' i=β i:=fun i h3 => upd_ne i h3
 let O':=ins j (.res [(β j,es)]) (wipeO j O)
 have hk : ∀ i x,lk i O'=some x->(i=j∧x=.res [(β j,es)])∨(i ≠ j∧∃ y,lk i O=some y∧x=y.wipe j):=fun i x hi => by
  have hi : lk i (ins j _ (wipeO j O))=some x:=hi
  rw [lk_ins] at hi
  split at hi
  . rename_i h3; cases hi; exact .inl ⟨h3,rfl⟩
  . rename_i h3
    obtain ⟨_,y,h5,h6⟩:=lk_wipeO hi
    exact .inr ⟨h3,y,h5,h6⟩
 have hfree : ∀ g,free Z φ O g->free Z φ' O' g:=fun g hg => ⟨hg.1,fun i x hi hx => by
  rcases hk i x hi with ⟨rfl,rfl⟩ | ⟨h3,y,h5,rfl⟩
  . cases hx
  . rw [e3 i h3]; exact hg.2 i y h5 (by rw [← wipe_res (j:=j)]; exact hx)⟩
 have hGf : ∀ g,G g->free Z φ' O' g:=fun g hg => ⟨hs.z g (hs.own j _ g hj hg.1),fun i x hi hx hgi => by
  rcases hk i x hi with ⟨rfl,rfl⟩ | ⟨h3,y,h5,rfl⟩
  . cases hx
  . rw [e3 i h3] at hgi; exact h3 (hs.disj i j y _ g h5 hj hgi hg.1)⟩
 have hm : ∀ g,free Z φ O g->g < w.heap.size->free Z φ' O' g∧w.heap[g]? = w.heap[g]? := fun g hg _ => ⟨hfree g hg,rfl⟩
 refine h (β j) h1 h2 Z B M w0 a w ⟨β',φ',?_⟩
 refine ⟨hs.nd.move hm,hs.size,fun i av' hi => ?_,fun i x hi => ?_,fun i x g hi hg => ?_,fun i i' x x' g hi hi' hg hg' => ?_,hs.fr,hs.z⟩
 . rw [lk_ins] at hi
   split at hi
   . rename_i h3; subst h3; cases hi
     exact .d (hX (β j) β _ w _ rfl (hD.rd hGf) ((hs.slots i av ht).move hm))
   . obtain ⟨h3,h4⟩:=lk_wipeS hi
     rcases h4 with rfl | h4
     . exact .undef _
     . exact ((hs.slots i av' h4).move hm).other b3 h3
 . rcases hk i x hi with ⟨rfl,rfl⟩ | ⟨h3,y,h5,rfl⟩
   . rw [e1]
     show OK β' _ w _ (upd β i _ i) G
     rw [upd_eq]
     refine .res rfl (fun g hg => hg.2) (fun n g => n=0∧G g) (fun n hn => ?_) (fun n g hg => hg.2) fun n n' g hg hg' => hg.1.trans hg'.1.symm
     obtain rfl : n=0:=by simpa using hn
     exact hD.mono fun g hg => ⟨rfl,hg⟩
   . rw [e3 i h3,b3 i h3]
     exact ((hs.objs i y h5).move hm (Nat.le_refl _) fun _ _ => rfl).wipe b3
 . rcases hk i x hi with ⟨rfl,rfl⟩ | ⟨h3,y,h5,rfl⟩
   . rw [e1] at hg; exact hs.own i _ g hj hg.1
   . rw [e3 i h3] at hg; exact hs.own i y g h5 hg
 . rcases hk i x hi with ⟨rfl,rfl⟩ | ⟨h3,y,h5,rfl⟩<;>rcases hk i' x' hi' with ⟨rfl,rfl⟩ | ⟨h3',y',h5',rfl⟩
   . rfl
   . rw [e1] at hg; rw [e3 i' h3'] at hg'; exact absurd (hs.disj i' i y' _ g h5' hj hg' hg.1) h3'
   . rw [e1] at hg'; rw [e3 i h3] at hg; exact absurd (hs.disj i i' y _ g h5 hj hg hg'.1) h3
   . rw [e3 i h3] at hg; rw [e3 i' h3'] at hg'; exact hs.disj i i' y y' g h5 h5' hg hg'

theorem getD_app {α : Type} (z : α) (a b : List α) (i : Nat) : (a++b).getD i z=if i < a.length then a.getD i z else b.getD (i - a.length) z:=by
 simp only [List.getD_eq_getElem?_getD,List.getElem?_append]
 split<;>rfl
theorem Wk.merge {N : Nat} {S : List (Nat × AV)} {O : List (Nat × AO)} (r1 r2 : Nat) (hne : r1 ≠ r2) {a b : List (Value × List D)} (h1 : lk r1 O=some (.res a)) (h2 : lk r2 O=some (.res b)) : Wk N ⟨S,O⟩ ⟨S,ins r1 (.res (a++b)) (del r2 O)⟩:=fun Z β φ B M w0 ac w hs => by
 let φ':=updF φ r1 (fun g => φ r1 g∨φ r2 g)
 have e1 : φ' r1=fun g => φ r1 g∨φ r2 g:=updF_eq
 have e3 : ∀ i,i ≠ r1->φ' i=φ i:=fun i h => updF_ne i h
 have hk : ∀ i x,lk i (ins r1 (.res (a++b)) (del r2 O))=some x->(i=r1∧x=.res (a++b))∨(i ≠ r1∧i ≠ r2∧lk i O=some x):=fun i x hi => by
  rw [lk_ins] at hi
  split at hi
  . rename_i h; cases hi; exact .inl ⟨h,rfl⟩
  . rename_i h
    rw [lk_del] at hi
    split at hi
    . cases hi
    . rename_i h'; exact .inr ⟨h,h',hi⟩
 have hm : ∀ g,free Z φ O g->g < w.heap.size->free Z φ' (ins r1 (.res (a++b)) (del r2 O)) g∧w.heap[g]? = w.heap[g]? := fun g hg _ => ⟨⟨hg.1,fun i x hi hx => by
  rcases hk i x hi with ⟨rfl,rfl⟩ | ⟨h3,_,h5⟩
  . cases hx
  . rw [e3 i h3]; exact hg.2 i x h5 hx⟩,rfl⟩
 refine ⟨β,φ',hs.nd.move hm,hs.size,fun i av hi => (hs.slots i av hi).move hm,fun i x hi => ?_,fun i x g hi hg => ?_,fun i i' x x' g hi hi' hg hg' => ?_,hs.fr,hs.z⟩
 . rcases hk i x hi with ⟨rfl,rfl⟩ | ⟨h3,_,h5⟩
   . rw [e1]
     have hA:=hs.objs i _ h1
     have hB:=hs.objs r2 _ h2
     have hd:=fun g => hs.disj i r2 _ _ g h1 h2
     generalize φ i=F1 at *
     generalize φ r2=F2 at *
     cases hA with
     | res hv hc fs hr hf hdj =>
       cases hB with
       | res hv' hc' fs' hr' hf' hdj' =>
         refine .res hv (fun g hg => hg.elim (hc g) (hc' g)) (fun n g => if n < a.length then fs n g else fs' (n - a.length) g) (fun n hn => ?_) (fun n g hg => ?_) fun n n' g hg hg' => ?_
         . rw [getD_app]
           by_cases hl : n < a.length
           . simp only [hl,if_true]; exact hr n hl
           . simp only [hl,if_false]; exact hr' _ (by rw [List.length_append] at hn; omega)
         . split at hg
           . exact .inl (hf _ _ hg)
           . exact .inr (hf' _ _ hg)
         . split at hg<;>split at hg'
           . exact hdj _ _ g hg hg'
           . exact absurd (hd g (hf _ _ hg) (hf' _ _ hg')) hne
           . exact absurd (hd g (hf _ _ hg') (hf' _ _ hg)) hne
           . have:=hdj' _ _ g hg hg'; omega
   . rw [e3 i h3]
     exact (hs.objs i x h5).move hm (Nat.le_refl _) fun _ _ => rfl
 . rcases hk i x hi with ⟨rfl,rfl⟩ | ⟨h3,_,h5⟩
   . rw [e1] at hg; exact hg.elim (hs.own i _ g h1) (hs.own r2 _ g h2)
   . rw [e3 i h3] at hg; exact hs.own i x g h5 hg
 . rcases hk i x hi with ⟨rfl,rfl⟩ | ⟨h3,h4,h5⟩<;>rcases hk i' x' hi' with ⟨rfl,rfl⟩ | ⟨h3',h4',h5'⟩
   . rfl
   . rw [e1] at hg; rw [e3 i' h3'] at hg'
     rcases hg with hg | hg
     . exact hs.disj i i' _ x' g h1 h5' hg hg'
     . exact absurd (hs.disj i' r2 x' _ g h5' h2 hg' hg) h4'
   . rw [e1] at hg'; rw [e3 i h3] at hg
     rcases hg' with hg' | hg'
     . exact hs.disj i i' x _ g h5 h1 hg hg'
     . exact absurd (hs.disj i r2 x _ g h5 h2 hg hg') h4
   . rw [e3 i h3] at hg; rw [e3 i' h3'] at hg'; exact hs.disj i i' x x' g h5 h5' hg hg'
end Abs
