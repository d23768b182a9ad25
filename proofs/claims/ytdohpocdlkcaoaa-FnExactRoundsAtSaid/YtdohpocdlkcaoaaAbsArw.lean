/- What functions of this program compute, over plain data. No condition. -/
import Derived.Test.YtdohpocdlkcaoaaAbsBox
import Derived.Test.YtdohpocdlkcaoaaG3
set_option linter.all false
namespace Abs
open Go Go.RowKit

mutual
def AV.mfz (j : Nat) (x : D) : AV->AV
 | .sl i => if i=j then .undef else .sl i
 | .p i o => if i=j then .undef else .p i o
 | .pe i k n o => if i=j then .undef else .pe i k n o
 | .mq i => if i=j then .d x else .mq i
 | .sf i k l => if i=j then .undef else .sf i k l
 | .vw i q n k => if q=j then .undef else .vw i q n k
 | .pv i q k n o => if q=j then .undef else .pv i q k n o
 | .tup xs => .tup (AV.mfzL j x xs)
 | .st xs => .st (AV.mfzL j x xs)
 | .fn f cs => .fn f (AV.mfzL j x cs)
 | y => y
def AV.mfzL (j : Nat) (x : D) : List AV->List AV
 | [] => []
 | y :: r => y.mfz j x :: AV.mfzL j x r
end
theorem mfzL_length {j x} : ∀ xs : List AV,(AV.mfzL j x xs).length=xs.length
 | [] => rfl
 | y :: r => by simp [AV.mfzL,mfzL_length r]
theorem mfzL_getD {j x} : ∀ (xs : List AV) (i : Nat),(AV.mfzL j x xs).getD i .undef=(xs.getD i .undef).mfz j x
 | [],i => by simp [AV.mfzL,AV.mfz]
 | y :: r,0 => by simp [AV.mfzL]
 | y :: r,i + 1 => by simpa [AV.mfzL] using mfzL_getD r i
def mfzS (j : Nat) (x : D) : List (Nat × AV)->List (Nat × AV)
 | [] => []
 | (k,v) :: r => (k,v.mfz j x) :: mfzS j x r
def AO.mfz (j : Nat) (x : D) : AO->AO
 | .box e cells => .box e (AV.mfzL j x cells)
 | .dp t xs (some (c,some d)) => .dp t xs (if d=j then some (c,none) else some (c,some d))
 | y => y
def mfzO (j : Nat) (x : D) : List (Nat × AO)->List (Nat × AO)
 | [] => []
 | (k,v) :: r => if k=j then mfzO j x r else (k,v.mfz j x) :: mfzO j x r
theorem lk_mfzS {i j x} : ∀ {l : List (Nat × AV)} {v},lk i (mfzS j x l)=some v->∃ u,lk i l=some u∧v=u.mfz j x
 | [],_,h => by simp [mfzS,lk] at h
 | (k, u) :: r, v, h => by
   simp only [mfzS,lk] at h
   simp only [lk]
   split at h
   . rename_i e; rw [if_pos e]; cases h; exact ⟨u,rfl,rfl⟩
   . rename_i e; rw [if_neg e]; exact lk_mfzS h
theorem lk_mfzO {i j x} : ∀ {l : List (Nat × AO)} {o},lk i (mfzO j x l)=some o->i ≠ j∧∃ o',lk i l=some o'∧o=o'.mfz j x
 | [],_,h => by simp [mfzO,lk] at h
 | (k, v) :: r, o, h => by
   simp only [mfzO] at h
   split at h
   . rename_i hk
     obtain ⟨h1,o',h2,h3⟩:=lk_mfzO h
     exact ⟨h1,o',by simp only [lk]; rw [if_neg (by omega)]; exact h2,h3⟩
   . rename_i hk
     simp only [lk] at h
     split at h
     . rename_i e; subst e; cases h; exact ⟨hk,v,by simp [lk],rfl⟩
     . rename_i e
       obtain ⟨h1,o',h2,h3⟩:=lk_mfzO h
       exact ⟨h1,o',by simp only [lk]; rw [if_neg e]; exact h2,h3⟩
theorem Rel.mfz {β S w j x b n c} (hb : β j=.slice (some ⟨b,0,none⟩) n c) (hr : Rd S w x (.map (some b))) : ∀ {av v},Rel β S w av v->Rel β S w (av.mfz j x) v:=by
 intro av v h
 induction h with
 | undef v => exact .undef v
 | d h => exact .d h
 | sl i =>
   simp only [AV.mfz]; split
   . exact .undef _
   . exact .sl i
 | p h =>
   simp only [AV.mfz]; split
   . exact .undef _
   . exact .p h
 | pe h =>
   simp only [AV.mfz]; split
   . exact .undef _
   . exact .pe h
 | mq h =>
   simp only [AV.mfz]; split
   . rename_i e; subst e
     rw [hb] at h; cases h
     exact .d hr
   . exact .mq h
 | sf h hl =>
   simp only [AV.mfz]; split
   . exact .undef _
   . exact .sf h hl
 | vw h =>
   simp only [AV.mfz]; split
   . exact .undef _
   . exact .vw h
 | pv h =>
   simp only [AV.mfz]; split
   . exact .undef _
   . exact .pv h
 | tup hl _ ih => exact .tup (by rw [mfzL_length]; exact hl) fun i hi => by rw [mfzL_length] at hi; rw [mfzL_getD]; exact ih i hi
 | fn hl _ ih => exact .fn (by rw [mfzL_length]; exact hl) fun i hi => by rw [mfzL_length] at hi; rw [mfzL_getD]; exact ih i hi
 | e0n => exact .e0n
 | e0s ad => exact .e0s ad
 | hdr h => exact .hdr h
 | nilS => exact .nilS
 | st hl _ ih => exact .st (by rw [mfzL_length]; exact hl) fun i hi => by rw [mfzL_length] at hi; rw [mfzL_getD]; exact ih i hi
theorem OK.mfz {β S w j x b n c o v F} (hb : β j=.slice (some ⟨b,0,none⟩) n c) (hr : Rd S w x (.map (some b))) (h : OK β S w o v F) : OK β S w (o.mfz j x) v F:=by
 cases h with
 | box hF xs hv hw hrel =>
   exact .box hF xs hv (by rw [mfzL_length]; exact hw) fun i hi => by rw [mfzL_length] at hi; rw [mfzL_getD]; exact (hrel i hi).mfz hb hr
 | arr hF xs hk0 hk hw hrel => exact .arr hF xs hk0 hk hw hrel
 | arv hF xs hv hk0 hk hw hrel => exact .arv hF xs hv hk0 hk hw hrel
 | mp b ms c hF hv hbb he => exact .mp b ms c hF hv hbb he
 | res hv hlt fs hr2 hf hd => exact .res hv hlt fs hr2 hf hd
 | arw hlt xs hk0 hk hw hbb hr2 hv => exact .arw hlt xs hk0 hk hw hbb hr2 hv
 | view hF b c hv => exact .view hF b c hv
 | d1 hlt h => exact .d1 hlt h
 | dp hlt h =>
   rename_i t xs ho
   rcases h with ⟨rfl,rfl,rfl,h⟩ | ⟨e,k,ys,fs,ht,h⟩
   . exact .dp hlt (.inl ⟨rfl,rfl,rfl,h⟩)
   . rcases ho with _ | ⟨c',_ | d⟩
     . exact .dp hlt (.inr ⟨e,k,ys,fs,ht,h⟩)
     . exact .dp hlt (.inr ⟨e,k,ys,fs,ht,h⟩)
     . simp only [AO.mfz]
       split
       . exact .dp hlt (.inr ⟨e,k,ys,fs,ht,{ h with hr:=fun i hi hn => h.hr i hi fun c' d' e => by cases e; exact hn _ none rfl,hh:=fun _ _ h => by cases h }⟩)
       . exact .dp hlt (.inr ⟨e,k,ys,fs,ht,h⟩)
theorem mfz_res {j x} {o : AO} (h : (o.mfz j x).isRes=false) : o.isRes=false:=by
 cases o<;>first | rfl | exact h
theorem Wk.mfz {N} {S : List (Nat × AV)} {O : List (Nat × AO)} (j : Nat) {q r : IntKind} {es : List (Int × Int)} (hj : lk j O=some (.mp q r es)) : Wk N ⟨S,O⟩ ⟨mfzS j (.map q r es) S,mfzO j (.map q r es) O⟩:=fun Z β φ B M w0 a w h => by
 have hO:=h.objs j _ hj
 have hS : ∀ g,free Z φ O g->g < w.heap.size->free Z φ (mfzO j (.map q r es) O) g∧w.heap[g]? = w.heap[g]? := fun g hg _ => by
  refine ⟨⟨hg.1,fun i y hi hy => ?_⟩,rfl⟩
  obtain ⟨hne,o',ho',rfl⟩:=lk_mfzO hi
  exact hg.2 i o' ho' (mfz_res hy)
 obtain ⟨b,n,c,hb,hr⟩ : ∃ b n c,β j=.slice (some ⟨b,0,none⟩) n c∧Rd (free Z φ (mfzO j (.map q r es) O)) w (.map q r es) (.map (some b)):=by
  have hdis : ∀ g,φ j g->free Z φ (mfzO j (.map q r es) O) g:=fun g hg => ⟨h.z g (h.own j _ g hj hg),fun i y hi _ hgi => by
   obtain ⟨hne,o',ho',_⟩:=lk_mfzO hi
   exact hne (h.disj i j o' _ g ho' hj hgi hg)⟩
  generalize φ j=F at *
  generalize β j=v at *
  cases hO with
  | mp b ms cl hF hv hbb hes =>
    subst hv
    exact ⟨b,0,0,rfl,.map ms (hdis b (by rw [hF]; rfl)) hbb hes⟩
 refine ⟨β,φ,h.nd.move hS,h.size,fun i av hi => ?_,fun i o hi => ?_,fun i o g hi hg => ?_,fun i i' o o' g hi hi' hg hg' => ?_,h.fr,h.z⟩
 . obtain ⟨u,hu,rfl⟩:=lk_mfzS hi
   exact ((h.slots i u hu).move hS).mfz hb hr
 . obtain ⟨hne,o',ho',rfl⟩:=lk_mfzO hi
   exact ((h.objs i o' ho').move hS (Nat.le_refl _) (fun _ _ => rfl)).mfz hb hr
 . obtain ⟨hne,o',ho',_⟩:=lk_mfzO hi
   exact h.own i o' g ho' hg
 . obtain ⟨hne,y,hy,_⟩:=lk_mfzO hi
   obtain ⟨hne',y',hy',_⟩:=lk_mfzO hi'
   exact h.disj i i' y y' g hy hy' hg hg'
end Abs

namespace Abs
open Go Go.RowKit

theorem Dp.onlyC {w x v F} (h : Dp w x v F) : Dp w x v (fun g => F g∧∃ cs e r,w.heap[g]? = some (.cells cs e r)):=by
 induction h with
 | int k n => exact .int k n _
 | bool b => exact .bool b _
 | str s => exact .str s _
 | nil v _ h => exact .nil v _ h
 | sl1 _ h0 ih =>
   refine .sl1 ih fun e => (h0 e).imp id fun ⟨e,h1,h2⟩ => ⟨e,h1,fun b hb => ⟨h2 b hb,?_⟩⟩
   rcases h1.2 with ⟨h3,_⟩ | ⟨g,cap,cur,h3,_,h4,_⟩
   . rw [h3] at hb; cases hb
   . rw [h3] at hb; cases hb; exact ⟨_,_,_,h4⟩
 | slice xs fs hk0 hk hw hb hf hd _ ih =>
   rename_i es v F e k _
   have hown : ∀ b,v.ownBlock=some b->∃ cs e r,w.heap[b]? = some (.cells cs e r):=fun b hbb => by
    rcases hw.2 with ⟨h1,_⟩ | ⟨g,cap,cur,h1,_,h3,_⟩
    . rw [h1] at hbb; cases hbb
    . rw [h1] at hbb; cases hbb; exact ⟨_,_,_,h3⟩
   exact .slice xs (fun i g => fs i g∧∃ cs e r,w.heap[g]? = some (.cells cs e r)) hk0 hk hw (fun b hbb => ⟨⟨(hb b hbb).1,hown b hbb⟩,fun i h => (hb b hbb).2 i h.1⟩) (fun i g h => ⟨hf i g h.1,h.2⟩) (fun i j g h h' => hd i j g h.1 h'.1) ih
theorem Ok.go {P : Program} {N : Nat} {c : Code} {Q : Exit->St->Prop} {st : St} (h : Awp P N c Q st) : Ok P N c Q st:=by
 rw [Awp_eq] at h; exact ok_of_awp _ _ _ h
theorem Ok.seq {P : Program} {N : Nat} {x y : Code} {Q : Exit->St->Prop} {st : St} (h : Ok P N x (seqQ (fun st => Ok P N y Q st) Q) st) : Ok P N (.seq x y) Q st:=fun h1 h2 Z B M w0 a w hs => by
 simp only [codeOK,Bool.and_eq_true] at h1
 refine sw_mono x (h h1.1 h2 Z B M w0 a w hs) fun e a' w' hl => ?_
 cases e with
 | normal =>
   simp only [lift] at hl
   obtain ⟨st1,hs1,hy⟩:=hl
   exact hy h1.2 h2 Z B M w0 a' w' hs1
 | exit id => exact hl
 | ret => exact hl
 | _ => exact hl
theorem Ok.endsW {P : Program} {N : Nat} {c : Code} {Q : Exit->St->Prop} {st : St} (h : Ok P N c (fun e st => ∃ st',Wk N st st'∧Q e st') st) : Ok P N c Q st:=fun h1 h2 Z B M w0 a w hs =>
 sw_mono c (h h1 h2 Z B M w0 a w hs) fun e a w hl => by
  cases e<;>simp only [lift] at hl ⊢<;>(try exact hl.elim) <;>
  . obtain ⟨st1,⟨β,φ,hs1⟩,st2,hw,hq⟩:=hl
    obtain ⟨β',φ',hs2⟩:=hw _ _ _ _ _ _ _ _ hs1
    exact ⟨st2,⟨β',φ',hs2⟩,hq⟩

def tagC (u : Value) : D->D
 | .slice (x :: r) => .tag u (x :: r)
 | c => c
def D.unt : D->D
 | .tag _ es => .slice es
 | c => c
def mapCells (f : Nat->D->D) (k : Nat) (es : List D) : List D:=es.zipIdx.map fun p => match p.1 with
 | .agg cs => .agg (cs.zipIdx.map fun q => f (p.2 * k + q.2) q.1)
 | c => f (p.2 * k) c
def tagE (us : Nat->Value) (k : Nat) (es : List D) : List D:=mapCells (fun i c => tagC (us i) c) k es
theorem mapCells_len {f k es} : (mapCells f k es).length=es.length:=by simp [mapCells]
theorem mapCells_el {f k} {es : List D} {i : Nat} (hi : i < es.length) : (mapCells f k es).getD i .nilptr=(match es.getD i .nilptr with
 | .agg cs => .agg (cs.zipIdx.map fun q => f (i * k + q.2) q.1)
 | c => f (i * k) c):=by
 simp only [mapCells,List.getD_eq_getElem?_getD,List.getElem?_map,List.getElem?_zipIdx,List.getElem?_eq_getElem hi,Option.map_some,Option.getD_some,Nat.zero_add]
theorem mapCells_ok {f : Nat->D->D} (hf : ∀ i c,c.isAgg=false->(f i c).isAgg=false) {k : Nat} {es : List D} (hk : ∀ x ∈ es,x.cells.length=k) (hk0 : 0 < k) (hn : ∀ c ∈ flat es,c.isAgg=false) :
 (∀ x ∈ mapCells f k es,x.cells.length=k)∧∀ i,i < (flat es).length->(flat (mapCells f k es)).getD i .nilptr=f i ((flat es).getD i .nilptr):=by
 have hone : ∀ {c : D},c.isAgg=false->c.cells=[c]:=fun h => cells_one h
 have hel : ∀ i,i < es.length->((mapCells f k es).getD i .nilptr).cells.length=k∧∀ c,c < k->((mapCells f k es).getD i .nilptr).cells.getD c .nilptr=f (i * k + c) ((es.getD i .nilptr).cells.getD c .nilptr):=by
  intro i hi
  have hm : es.getD i .nilptr ∈ es:=by simp only [List.getD_eq_getElem?_getD,List.getElem?_eq_getElem hi,Option.getD_some]; exact List.getElem_mem hi
  have hl:=hk _ hm
  have hnn : ∀ c ∈ (es.getD i .nilptr).cells,c.isAgg=false:=fun c hc => hn c (List.mem_flatMap.2 ⟨_,hm,hc⟩)
  rw [mapCells_el hi]
  generalize es.getD i .nilptr=x at *
  split
  . rename_i cs
    refine ⟨by simpa [D.cells] using hl,fun c hc => ?_⟩
    have hl' : cs.length=k:=hl
    simp only [D.cells,List.getD_eq_getElem?_getD,List.getElem?_map,List.getElem?_zipIdx,List.getElem?_eq_getElem (show c < cs.length by omega),Option.map_some,Option.getD_some,Nat.zero_add]
  . rename_i hna
    have hx : x.isAgg=false:=by
     cases x<;>first | rfl | exact absurd rfl (hna _)
    rw [hone hx] at hl ⊢
    have hk1 : k=1:=by simpa using hl.symm
    subst hk1
    rw [hone (hf _ _ hx)]
    refine ⟨rfl,fun c hc => ?_⟩
    obtain rfl : c=0:=by omega
    simp
 have hks : ∀ x ∈ mapCells f k es,x.cells.length=k:=fun x hx => by
  obtain ⟨i,hi,rfl⟩:=List.getElem_of_mem hx
  rw [mapCells_len] at hi
  have:=(hel i hi).1
  simpa [List.getD_eq_getElem?_getD,mapCells_len,hi] using this
 refine ⟨hks,fun i hi => ?_⟩
 have fl:=flat_length hk
 rw [fl] at hi
 have hdm : i / k < es.length∧i % k < k∧i / k * k + i % k=i:=⟨(Nat.div_lt_iff_lt_mul hk0).2 hi,Nat.mod_lt _ hk0,by rw [Nat.mul_comm]; exact Nat.div_add_mod _ _⟩
 obtain ⟨d1,d2,d3⟩:=hdm
 rw [← d3,flat_getD hks (by rw [mapCells_len]; exact d1) d2,flat_getD hk d1 d2]
 exact (hel _ d1).2 _ d2

def resOf (us : Nat->Value) (es : List D) : List (Value × List D):=(flat es).zipIdx.map fun p => match p.1 with
 | .slice (x :: r) => (us p.2,x :: r)
 | _ => (.slice none 0 0,[])
theorem resOf_len {us es} : (resOf us es).length=(flat es).length:=by simp [resOf]
theorem resOf_at {us es} {i : Nat} (hi : i < (flat es).length) : (resOf us es).getD i (.slice none 0 0,[])=(match (flat es).getD i .nilptr with
 | .slice (x :: r) => (us i,x :: r)
 | _ => (.slice none 0 0,[])):=by
 simp only [resOf,List.getD_eq_getElem?_getD,List.getElem?_map,List.getElem?_zipIdx,List.getElem?_eq_getElem hi,Option.map_some,Option.getD_some,Nat.zero_add]

theorem Dp.nonagg {w x v F} (h : Dp w x v F) : x.isAgg=false:=by cases h<;>rfl
theorem tagC_nonagg {u : Value} {c : D} (h : c.isAgg=false) : (tagC u c).isAgg=false:=by
 unfold tagC; split<;>first | rfl | exact h

theorem Ok.tag {P : Program} {N : Nat} {c : Code} {Q : Exit->St->Prop} {S : List (Nat × AV)} {O : List (Nat × AO)} (j r : Nat) (hjr : j ≠ r) {e : TypeId} {k : Nat} {es : List D} (hj : lk j O=some (.dp (some (e,k)) es none))
 (h : ∀ us : Nat->Value,(∀ x ∈ es,x.cells.length=k)->Ok P N c Q ⟨wipeS r S,ins r (.res (resOf us es)) (ins j (.arr e k (tagE us k es)) (wipeO r O))⟩) : Ok P N c Q ⟨S,O⟩:=fun h1 h2 Z B M w0 a w ⟨β,φ,hs⟩ => by
 have hO:=hs.objs j _ hj
 obtain ⟨xs,fs,hR⟩ : ∃ xs fs,DpR β w e k es none (β j) (φ j) xs fs:=by
  cases hO with
  | dp _ hD =>
    rcases hD with ⟨h3,_⟩ | ⟨e',k',xs,fs,ht,hR⟩
    . cases h3
    . rcases ht with ht | ht
      . cases ht
      . cases ht; exact ⟨xs,fs,hR⟩
 have hna : ∀ x ∈ flat es,x.isAgg=false:=fun x hx => by
  obtain ⟨i,hi,rfl⟩:=List.getElem_of_mem hx
  have:=(hR.hr i hi (by simp)).nonagg
  simpa [List.getD_eq_getElem?_getD,hi] using this
 obtain ⟨m1,m2⟩:=mapCells_ok (f:=fun i c => tagC (xs.getD i Go.undef) c) (fun i c hc => tagC_nonagg hc) hR.hk hR.hk0 hna
 have fl:=flat_length hR.hk
 have fl2:=flat_length m1
 rw [mapCells_len] at fl2
 have hxl:=hR.hw.1
 -- the reserve's blocks
 let G : Nat->Prop:=fun g => (∃ i,i < (flat es).length∧fs i g)∧∃ cs e r,w.heap[g]? = some (.cells cs e r)
 have hGj : ∀ g,G g->φ j g:=fun g ⟨⟨i,_,hi⟩,_⟩ => hR.hf i g hi
 have hGo : ∀ g,G g->¬ ownS (β j) g:=fun g ⟨⟨i,_,hi⟩,_⟩ ho => (hR.hb g ho).2 i hi
 have hoj : ∀ g,ownS (β j) g->φ j g:=fun g hg => (hR.hb g hg).1
 let β':=upd β r (.slice none 0 0)
 let φ':=updF (updF φ j (ownS (β j))) r G
 have e1 : φ' r=G:=updF_eq
 have e2 : φ' j=ownS (β j):=by show updF (updF φ j (ownS (β j))) r G j=_; rw [updF_ne _ hjr,updF_eq]
 have e3 : ∀ i,i ≠ r->i ≠ j->φ' i=φ i:=fun i h3 h4 => by show updF (updF φ j (ownS (β j))) r G i=_; rw [updF_ne _ h3,updF_ne _ h4]
 have b2 : β' j=β j:=upd_ne j hjr
 let O':=ins r (.res (resOf (fun i => xs.getD i Go.undef) es)) (ins j (.arr e k (tagE (fun i => xs.getD i Go.undef) k es)) (wipeO r O))
 have hk : ∀ i x,lk i O'=some x->(i=r∧x=.res (resOf (fun i => xs.getD i Go.undef) es))∨(i=j∧x=.arr e k (tagE (fun i => xs.getD i Go.undef) k es))∨(i ≠ r∧i ≠ j∧∃ y,lk i O=some y∧x=y.wipe r):=fun i x hi => by
  have hi : lk i (ins r _ (ins j _ (wipeO r O)))=some x:=hi
  rw [lk_ins] at hi
  split at hi
  . rename_i h3; cases hi; exact .inl ⟨h3,rfl⟩
  . rename_i h3
    rw [lk_ins] at hi
    split at hi
    . rename_i h4; cases hi; exact .inr (.inl ⟨h4,rfl⟩)
    . rename_i h4
      obtain ⟨_,y,h5,h6⟩:=lk_wipeO hi
      exact .inr (.inr ⟨h3,h4,y,h5,h6⟩)
 have hfree : ∀ g,free Z φ O g->free Z φ' O' g:=fun g hg => ⟨hg.1,fun i x hi hx => by
  rcases hk i x hi with ⟨rfl,rfl⟩ | ⟨rfl,rfl⟩ | ⟨h3,h4,y,h5,rfl⟩
  . cases hx
  . rw [e2]; exact fun h => hg.2 i _ hj rfl (hoj g h)
  . rw [e3 i h3 h4]; exact hg.2 i y h5 (by rw [← wipe_res (j:=r)]; exact hx)⟩
 have hGf : ∀ g,G g->free Z φ' O' g:=fun g hg => ⟨hs.z g (hs.own j _ g hj (hGj g hg)),fun i x hi hx hgi => by
  rcases hk i x hi with ⟨rfl,rfl⟩ | ⟨rfl,rfl⟩ | ⟨h3,h4,y,h5,rfl⟩
  . cases hx
  . rw [e2] at hgi; exact hGo g hg hgi
  . rw [e3 i h3 h4] at hgi; exact h4 (hs.disj i j y _ g h5 hj hgi (hGj g hg))⟩
 have hm : ∀ g,free Z φ O g->g < w.heap.size->free Z φ' O' g∧w.heap[g]? = w.heap[g]? := fun g hg _ => ⟨hfree g hg,rfl⟩
 have hcell : ∀ i,i < (flat es).length->Dp w ((flat es).getD i .nilptr) (xs.getD i Go.undef) (fun g => fs i g∧∃ cs e r,w.heap[g]? = some (.cells cs e r)):=fun i hi =>
  (hR.hr i hi (by simp)).onlyC
 refine h (fun i => xs.getD i Go.undef) hR.hk h1 h2 Z B M w0 a w ⟨β',φ',?_⟩
 refine ⟨hs.nd.move hm,hs.size,fun i av hi => ?_,fun i x hi => ?_,fun i x g hi hg => ?_,fun i i' x x' g hi hi' hg hg' => ?_,hs.fr,hs.z⟩
 . obtain ⟨h3,h4⟩:=lk_wipeS hi
   rcases h4 with rfl | h4
   . exact .undef _
   . exact ((hs.slots i av h4).move hm).other upd_ne h3
 . rcases hk i x hi with ⟨rfl,rfl⟩ | ⟨rfl,rfl⟩ | ⟨h3,h4,y,h5,rfl⟩
   . rw [e1]
     show OK β' _ w _ (upd β i _ i) G
     rw [upd_eq]
     refine .res rfl (fun g hg => hg.2) (fun n g => n < (flat es).length∧fs n g∧∃ cs e r,w.heap[g]? = some (.cells cs e r)) (fun n hn => ?_) (fun n g hg => ⟨⟨n,hg.1,hg.2.1⟩,hg.2.2⟩) fun n n' g hg hg' => hR.hd n n' g hg.2.1 hg'.2.1
     rw [resOf_len] at hn
     rw [resOf_at hn]
     have:=hcell n hn
     generalize (flat es).getD n .nilptr=cc at *
     split
     . exact this.mono fun g hg => ⟨hn,hg⟩
     . exact .nil _ _ (.nil _)
   . rw [b2,e2]
     refine .arr rfl xs hR.hk0 m1 (by simpa [tagE,mapCells_len] using hR.hw) fun n hn => ?_
     have hn : n < (flat (mapCells (fun i c => tagC (xs.getD i Go.undef) c) k es)).length:=hn
     have hn' : n < (flat es).length:=by omega
     have:=hcell n hn'
     show Rd _ w ((flat (mapCells (fun i c => tagC (xs.getD i Go.undef) c) k es)).getD n .nilptr) _
     rw [m2 n hn']
     have hrd:=this.rd (S:=free Z φ' O') fun g hg => hGf g ⟨⟨n,hn',hg.1⟩,hg.2⟩
     generalize (flat es).getD n .nilptr=cc at *
     unfold tagC
     split
     . exact .tag hrd
     . exact hrd
   . rw [e3 i h3 h4,show β' i=β i from upd_ne i h3]
     exact ((hs.objs i y h5).move hm (Nat.le_refl _) fun _ _ => rfl).wipe upd_ne
 . rcases hk i x hi with ⟨rfl,rfl⟩ | ⟨rfl,rfl⟩ | ⟨h3,h4,y,h5,rfl⟩
   . rw [e1] at hg; exact hs.own j _ g hj (hGj g hg)
   . rw [e2] at hg; exact hs.own i _ g hj (hoj g hg)
   . rw [e3 i h3 h4] at hg; exact hs.own i y g h5 hg
 . rcases hk i x hi with ⟨rfl,rfl⟩ | ⟨rfl,rfl⟩ | ⟨h3,h4,y,h5,rfl⟩<;>rcases hk i' x' hi' with ⟨rfl,rfl⟩ | ⟨rfl,rfl⟩ | ⟨h3',h4',y',h5',rfl⟩
   . rfl
   . rw [e1] at hg; rw [e2] at hg'; exact (hGo g hg hg').elim
   . rw [e1] at hg; rw [e3 i' h3' h4'] at hg'; exact absurd (hs.disj i' j y' _ g h5' hj hg' (hGj g hg)) h4'
   . rw [e2] at hg; rw [e1] at hg'; exact (hGo g hg' hg).elim
   . rfl
   . rw [e2] at hg; rw [e3 i' h3' h4'] at hg'; exact absurd (hs.disj i' i y' _ g h5' hj hg' (hoj g hg)) h4'
   . rw [e3 i h3 h4] at hg; rw [e1] at hg'; exact absurd (hs.disj i j y _ g h5 hj hg (hGj g hg')) h4
   . rw [e3 i h3 h4] at hg; rw [e2] at hg'; exact absurd (hs.disj i i' y _ g h5 hj hg (hoj g hg')) h4
   . rw [e3 i h3 h4] at hg; rw [e3 i' h3' h4'] at hg'; exact hs.disj i i' y y' g h5 h5' hg hg'

theorem Wk.thaw {N : Nat} {S S' : List (Nat × AV)} {O O' : List (Nat × AO)} (j r : Nat) {e : TypeId} {k : Nat} {es' : List D} {rs : List (Value × List D)} (hj : lk j O=some (.arr e k es')) (hr : lk r O=some (.res rs)) (es : List D) (σ : Nat->Nat)
 (hk : ∀ x ∈ es,x.cells.length=k) (hlen : es.length=es'.length)
 (hc : ∀ i,i < (flat es).length->((flat es').getD i .nilptr=(flat es).getD i .nilptr∧((flat es).getD i .nilptr).bare=true) ∨
  ∃ u ys,(flat es').getD i .nilptr=.tag u ys∧(flat es).getD i .nilptr=.slice ys∧σ i < rs.length∧rs.getD (σ i) (.slice none 0 0,[])=(u,ys))
 (hσ : ∀ i i',i < (flat es).length->i' < (flat es).length->((flat es').getD i .nilptr).bare=false->((flat es').getD i' .nilptr).bare=false->σ i=σ i'->i=i')
 (hS : ∀ p ∈ S',lk p.1 S=some p.2∧p.2.plain) (hO : ∀ p ∈ O',(p.1=j∧p.2=.dp (some (e,k)) es none)∨(p.1 ≠ j∧p.1 ≠ r∧lk p.1 O=some p.2∧p.2.plain)) :
 Wk N ⟨S,O⟩ ⟨S',O'⟩:=fun Z β φ B M w0 a w hs => by
 have hOj:=hs.objs j _ hj
 have hOr:=hs.objs r _ hr
 have hjr : j ≠ r:=fun h => by subst h; have:=hj.symm.trans hr; cases this
 have hdis : ∀ g,φ j g->φ r g->False:=fun g h1 h2 => hjr (hs.disj j r _ _ g hj hr h1 h2)
 let φ':=updF φ j (fun g => φ j g∨φ r g)
 have e1 : φ' j=fun g => φ j g∨φ r g:=updF_eq
 have e3 : ∀ i,i ≠ j->φ' i=φ i:=fun i h => updF_ne i h
 have hko : ∀ {i x},lk i O'=some x->(i=j∧x=.dp (some (e,k)) es none)∨(i ≠ j∧i ≠ r∧lk i O=some x∧x.plain):=fun h => hO _ (lk_some_mem h)
 refine ⟨β,φ',⟨fun d hd => ?_,hs.nd.apart⟩,hs.size,fun i av hi => ?_,fun i x hi => ?_,fun i x g hi hg => ?_,fun i i' x x' g hi hi' hg hg' => ?_,hs.fr,hs.z⟩
 . obtain ⟨D0,h1,h2,h3,h4⟩:=hs.nd.each d hd
   refine ⟨D0,h1,⟨h2.1,fun i x hi hx hg => ?_⟩,h3,h4⟩
   rcases hko hi with ⟨rfl,rfl⟩ | ⟨h5,_,h6,_⟩
   . rw [e1] at hg
     rcases hg with hg | hg
     . exact h2.2 i _ hj rfl hg
     . cases hOr with
       | res _ hcc _ _ _ _ =>
         obtain ⟨_,_,_,h7⟩:=hcc _ hg
         rw [h4] at h7; cases h7
   . rw [e3 i h5] at hg; exact h2.2 i x h6 hx hg
 . obtain ⟨h1,h2⟩:=hS _ (lk_some_mem hi)
   exact (hs.slots i av h1).plain h2
 . rcases hko hi with ⟨rfl,rfl⟩ | ⟨h5,_,h6,h7⟩
   . rw [e1]
     generalize φ i=Fj at *
     generalize φ r=Fr' at *
     cases hOj with
     | arr hF xs hk0 hk' hw hrd =>
       cases hOr with
       | res hv hcc fr hfr hff hfd =>
         have fl:=flat_length hk
         have fl':=flat_length hk'
         have hxl:=hw.1
         have hrd':=hrd
         refine .dp (fun g hg => ?_) (.inr ⟨e,k,xs,fun n g => (n < (flat es).length∧((flat es').getD n .nilptr).bare=false)∧fr (σ n) g,.inr rfl,hk0,hk,by rw [hlen]; exact hw,fun b hb => ⟨.inl (by rw [hF]; exact hb),fun n h => hdis b (by rw [hF]; exact hb) (hff _ _ h.2)⟩,fun n g h => .inr (hff _ _ h.2),
          fun n n' g h h' => hσ n n' h.1.1 h'.1.1 h.1.2 h'.1.2 (hfd _ _ g h.2 h'.2),fun n hn _ => ?_,fun _ _ h => by cases h⟩)
         . rcases hg with hg | hg
           . subst hF; exact (hw.lt g hg).2
           . obtain ⟨_,_,_,h7⟩:=hcc g hg; exact (Array.getElem?_eq_some_iff.1 h7).1
         . have hn' : n < (flat es').length:=by rw [fl',← hlen,← fl]; exact hn
           have hR:=hrd' n hn'
           rcases hc n hn with ⟨h1,h2⟩ | ⟨u,ys,h1,h2,h3,h4⟩
           . rw [h1] at hR
             exact dp_bare h2 hR
           . rw [h1] at hR
             rw [h2]
             have hD:=hfr (σ n) h3
             rw [h4] at hD
             cases hR with
             | tag _ => exact hD.mono fun g hg => ⟨⟨hn,by rw [h1]; rfl⟩,hg⟩
   . rw [e3 i h5]
     exact (hs.objs i x h6).plain h7
 . rcases hko hi with ⟨rfl,rfl⟩ | ⟨h5,_,h6,_⟩
   . rw [e1] at hg
     exact hg.elim (fun hg => hs.own i _ g hj hg) fun hg => hs.own r _ g hr hg
   . rw [e3 i h5] at hg; exact hs.own i x g h6 hg
 . rcases hko hi with ⟨rfl,rfl⟩ | ⟨h5,h5r,h6,_⟩<;>rcases hko hi' with ⟨rfl,rfl⟩ | ⟨h5',h5r',h6',_⟩
   . rfl
   . rw [e1] at hg; rw [e3 i' h5'] at hg'
     rcases hg with hg | hg
     . exact hs.disj i i' _ x' g hj h6' hg hg'
     . exact absurd (hs.disj i' r x' _ g h6' hr hg' hg) h5r'
   . rw [e1] at hg'; rw [e3 i h5] at hg
     rcases hg' with hg' | hg'
     . exact hs.disj i i' x _ g h6 hj hg hg'
     . exact absurd (hs.disj i r x _ g h6 hr hg hg') h5r
   . rw [e3 i h5] at hg; rw [e3 i' h5'] at hg'
     exact hs.disj i i' x x' g h6 h6' hg hg'

abbrev Tg:=Value × List Int
def D.tg (p : Tg) : D:=tagC p.1 (.slice (p.2.map (.int .i64)))
def resP (p : Tg) : Value × List D:=match p.2 with
 | [] => (.slice none 0 0,[])
 | x :: r => (p.1,(x :: r).map (.int .i64))
def tgs (us : Nat->Value) (cs : List (List Int)) : List Tg:=cs.zipIdx.map fun p => (us p.2,p.1)
theorem tgs_snd {us} {cs : List (List Int)} : (tgs us cs).map (·.2)=cs:=by
 unfold tgs
 rw [List.map_map]
 exact List.ext_getElem (by simp) fun i h1 h2 => by simp
theorem tagE_ints {us : Nat->Value} {cs : List (List Int)} : tagE us 1 (cs.map fun c => .slice (c.map (.int .i64)))=(tgs us cs).map D.tg:=by
 unfold tagE mapCells tgs
 refine List.ext_getElem (by simp) fun i h1 h2 => ?_
 simp [D.tg]
theorem resOf_ints {us : Nat->Value} {cs : List (List Int)} : resOf us (cs.map fun c => .slice (c.map (.int .i64)))=(tgs us cs).map resP:=by
 unfold resOf tgs
 have : flat (cs.map fun c => D.slice (c.map (D.int .i64)))=cs.map fun c => D.slice (c.map (D.int .i64)):=by
  induction cs with
  | nil => rfl
  | cons c cs ih => simp only [flat,List.map_cons,List.flatMap_cons,D.cells,List.cons_append,List.nil_append] at ih ⊢; rw [ih]
 rw [this]
 refine List.ext_getElem (by simp) fun i h1 h2 => ?_
 simp only [List.getElem_map,List.getElem_zipIdx,Nat.zero_add,resP]
 cases cs[i]'(by simpa using h1)<;>rfl
theorem flat_tg (ps : List Tg) : flat (ps.map D.tg)=ps.map D.tg:=by
 have h1 : ∀ p : Tg,(D.tg p).cells=[D.tg p]:=fun p => by
  unfold D.tg tagC; split<;>rfl
 induction ps with
 | nil => rfl
 | cons c cs ih => simp only [flat,List.map_cons,List.flatMap_cons,h1,List.cons_append,List.nil_append] at ih ⊢; rw [ih]
theorem tg_cells {p : Tg} : (D.tg p).cells=[D.tg p]:=by
 unfold D.tg tagC; split<;>rfl

theorem Ok.tag1 {P : Program} {N : Nat} {c : Code} {Q : Exit->St->Prop} {S : List (Nat × AV)} {O : List (Nat × AO)} (j r : Nat) (hjr : j ≠ r) {e : TypeId} {cs : List (List Int)} (hj : lk j O=some (.dp (some (e,1)) (cs.map fun c => .slice (c.map (.int .i64))) none))
 (h : ∀ ps : List Tg,ps.map (·.2)=cs->Ok P N c Q ⟨wipeS r S,ins r (.res (ps.map resP)) (ins j (.arr e 1 (ps.map D.tg)) (wipeO r O))⟩) : Ok P N c Q ⟨S,O⟩ :=
 Ok.tag j r hjr hj fun us _ => by
  have:=h (tgs us cs) tgs_snd
  rwa [← tagE_ints,← resOf_ints] at this

theorem subperm_idx {α : Type} {l l' : List α} (z : α) (h : ∃ m,m.Perm l∧l'.Sublist m) : ∃ σ : Nat->Nat,(∀ i,i < l'.length->σ i < l.length∧l.getD (σ i) z=l'.getD i z)∧∀ i i',i < l'.length->i' < l'.length->σ i=σ i'->i=i':=by
 obtain ⟨m,hp,hs⟩:=h
 -- a sublist of m is picked by rising indices
 have h1 : ∃ σ : Nat->Nat,(∀ i,i < l'.length->σ i < m.length∧m.getD (σ i) z=l'.getD i z)∧∀ i i',i < l'.length->i' < l'.length->σ i=σ i'->i=i':=by
  clear hp
  induction hs with
  | slnil => exact ⟨id,fun i h => by simp at h,fun i i' h => by simp at h⟩
  | cons a hs ih =>
    obtain ⟨σ,h1,h2⟩:=ih
    exact ⟨fun i => σ i + 1,fun i hi => ⟨by simp; exact (h1 i hi).1,by simpa using (h1 i hi).2⟩,fun i i' hi hi' e => h2 i i' hi hi' (by simpa using e)⟩
  | cons_cons a hs ih =>
    obtain ⟨σ,h1,h2⟩:=ih
    refine ⟨fun i => match i with | 0 => 0 | i + 1 => σ i + 1,fun i hi => ?_,fun i i' hi hi' e => ?_⟩
    . cases i with
      | zero => simp
      | succ i =>
        have:=h1 i (by simpa using hi)
        exact ⟨by simp; exact this.1,by simpa using this.2⟩
    . cases i with
      | zero => cases i' with
        | zero => rfl
        | succ i' => simp at e
      | succ i => cases i' with
        | zero => simp at e
        | succ i' =>
          have:=h2 i i' (by simpa using hi) (by simpa using hi') (by simpa using e)
          omega
 -- a permutation is picked by some indices
 have h2 : ∃ τ : Nat->Nat,(∀ i,i < m.length->τ i < l.length∧l.getD (τ i) z=m.getD i z)∧∀ i i',i < m.length->i' < m.length->τ i=τ i'->i=i':=by
  clear h1 hs
  induction hp with
  | nil => exact ⟨id,fun i h => by simp at h,fun i i' h => by simp at h⟩
  | cons a _ ih =>
    obtain ⟨σ,h1,h2⟩:=ih
    refine ⟨fun i => match i with | 0 => 0 | i + 1 => σ i + 1,fun i hi => ?_,fun i i' hi hi' e => ?_⟩
    . cases i with
      | zero => simp
      | succ i =>
        have:=h1 i (by simpa using hi)
        exact ⟨by simp; exact this.1,by simpa using this.2⟩
    . cases i with
      | zero => cases i' with
        | zero => rfl
        | succ i' => simp at e
      | succ i => cases i' with
        | zero => simp at e
        | succ i' =>
          have:=h2 i i' (by simpa using hi) (by simpa using hi') (by simpa using e)
          omega
  | swap a b l =>
    refine ⟨fun i => match i with | 0 => 1 | 1 => 0 | i + 2 => i + 2,fun i hi => ?_,fun i i' hi hi' e => ?_⟩
    . match i with
      | 0 => simp
      | 1 => simp
      | i + 2 => exact ⟨by simpa using hi,by simp⟩
    . match i,i' with
      | 0,0 => rfl
      | 1,1 => rfl
      | 0,1 => simp at e
      | 1,0 => simp at e
      | 0,i' + 2 => simp at e
      | 1,i' + 2 => simp at e
      | i + 2,0 => simp at e
      | i + 2,1 => simp at e
      | i + 2,i' + 2 => simpa using e
  | trans p1 p2 ih1 ih2 =>
    obtain ⟨σ,h1,h2⟩:=ih1
    obtain ⟨τ,h3,h4⟩:=ih2
    exact ⟨fun i => τ (σ i),fun i hi => ⟨(h3 _ (h1 i hi).1).1,((h3 _ (h1 i hi).1).2).trans (h1 i hi).2⟩,fun i i' hi hi' e => h2 i i' hi hi' (h4 _ _ (h1 i hi).1 (h1 i' hi').1 e)⟩
 obtain ⟨σ,s1,s2⟩:=h1
 obtain ⟨τ,t1,t2⟩:=h2
 exact ⟨fun i => τ (σ i),fun i hi => ⟨(t1 _ (s1 i hi).1).1,((t1 _ (s1 i hi).1).2).trans (s1 i hi).2⟩,fun i i' hi hi' e => s2 i i' hi hi' (t2 _ _ (s1 i hi).1 (s1 i' hi').1 e)⟩

theorem Wk.thaw1 {N : Nat} {S S' : List (Nat × AV)} {O O' : List (Nat × AO)} (j r : Nat) {e : TypeId} {ps ps0 : List Tg} (hj : lk j O=some (.arr e 1 (ps.map D.tg))) (hr : lk r O=some (.res (ps0.map resP))) (hp : ∃ m,m.Perm ps0∧ps.Sublist m)
 (hS : ∀ p ∈ S',lk p.1 S=some p.2∧p.2.plain) (hO : ∀ p ∈ O',(p.1=j∧p.2=.dp (some (e,1)) (ps.map fun p => .slice (p.2.map (.int .i64))) none)∨(p.1 ≠ j∧p.1 ≠ r∧lk p.1 O=some p.2∧p.2.plain)) :
 Wk N ⟨S,O⟩ ⟨S',O'⟩:=by
 obtain ⟨σ,s1,s2⟩:=subperm_idx ((.slice none 0 0,[]) : Tg) hp
 have fl : flat (ps.map fun p : Tg => D.slice (p.2.map (D.int .i64)))=ps.map fun p : Tg => D.slice (p.2.map (D.int .i64)):=by
  clear hj hp hO s1 s2
  induction ps with
  | nil => rfl
  | cons c cs ih => simp only [flat,List.map_cons,List.flatMap_cons,D.cells,List.cons_append,List.nil_append] at ih ⊢; rw [ih]
 refine Wk.thaw j r hj hr (ps.map fun p => .slice (p.2.map (.int .i64))) σ (fun x hx => by obtain ⟨p,_,rfl⟩:=List.mem_map.1 hx; rfl) (by simp) (fun i hi => ?_) (fun i i' hi hi' h1 h2 e => ?_) hS hO
 . rw [fl] at hi
   rw [fl,flat_tg]
   rw [List.length_map] at hi
   obtain ⟨h1,h2⟩:=s1 i hi
   have g1 : (ps.map D.tg).getD i .nilptr=D.tg (ps.getD i (.slice none 0 0,[])):=by simp [List.getD_eq_getElem?_getD,hi]
   have g2 : (ps.map fun p : Tg => D.slice (p.2.map (D.int .i64))).getD i .nilptr=.slice ((ps.getD i (.slice none 0 0,[])).2.map (.int .i64)):=by simp [List.getD_eq_getElem?_getD,hi]
   rw [g1,g2]
   rw [← h2]
   have g3 : (ps0.map resP).getD (σ i) (.slice none 0 0,[])=resP (ps0.getD (σ i) (.slice none 0 0,[])):=by simp [List.getD_eq_getElem?_getD,h1]
   rw [g3]
   generalize ps0.getD (σ i) (.slice none 0 0,[])=q at *
   obtain ⟨u,c⟩:=q
   cases c with
   | nil => exact .inl ⟨rfl,rfl⟩
   | cons x c => exact .inr ⟨u,_,rfl,rfl,by rw [List.length_map]; exact h1,rfl⟩
 . rw [fl,List.length_map] at hi hi'
   exact s2 i i' hi hi' e

mutual
def D.strip : D->D
 | .tag _ es => .slice es
 | .agg cs => .agg (D.stripL cs)
 | x => x
def D.stripL : List D->List D
 | [] => []
 | x :: r => x.strip :: D.stripL r
end
theorem stripL_len : ∀ cs : List D,(D.stripL cs).length=cs.length
 | [] => rfl
 | x :: r => by simp [D.stripL,stripL_len r]
theorem stripL_getD : ∀ (cs : List D) (i : Nat),i < cs.length->(D.stripL cs).getD i .nilptr=(cs.getD i .nilptr).strip
 | [],i,h => by simp at h
 | x :: r,0,_ => by simp [D.stripL]
 | x :: r,i + 1,h => by simpa [D.stripL] using stripL_getD r i (by simpa using h)
theorem Rd.strip {S w} : ∀ {x v},Rd S w x v->Rd S w x.strip v:=by
 intro x v h
 induction h with
 | tag h _ => exact h
 | sl1 h _ => exact .sl1 h
 | agg hl _ ih => exact .agg (by rw [stripL_len]; exact hl) fun i hi => by rw [stripL_len] at hi; rw [stripL_getD _ _ hi]; exact ih i hi
 | int k n => exact .int k n
 | bool b => exact .bool b
 | str s => exact .str s
 | nil a => exact .nil a
 | slice vs hk hcap hc hr => exact .slice vs hk hcap hc hr
 | ptr vs hc hr => exact .ptr vs hc hr
 | nilptr => exact .nilptr
 | fn hl hl' hr hr' => exact .fn hl hl' hr hr'
 | nilfn => exact .nilfn
 | tup hl hr => exact .tup hl hr
 | map ms hS hb he => exact .map ms hS hb he
 | nilmap => exact .nilmap
theorem Ctr.strip {P : Program} {f : FuncId} {xs ys : List D} {sh : Bool} {res : AV} {oo : List (Nat × AO)} (h : Ctr P f xs sh res oo) (hy : D.stripL ys=xs) : Ctr P f ys sh res oo:=by
 subst hy
 refine ⟨h.1,fun S w vs hl hr => h.2 S w vs (by rw [stripL_len]; exact hl) fun i hi => ?_⟩
 rw [stripL_len] at hi
 rw [stripL_getD _ _ hi]
 exact (hr i hi).strip
theorem strip_tg (p : Tg) : (D.tg p).strip=.slice (p.2.map (.int .i64)):=by
 obtain ⟨u,c⟩:=p
 cases c<;>rfl
end Abs

namespace Abs
open Go Go.RowKit

theorem Wk.arw {N : Nat} {S : List (Nat × AV)} {O : List (Nat × AO)} (j : Nat) {e : TypeId} {k : Nat} {es : List D} (hj : lk j O=some (.arr e k es)) : Wk N ⟨S,O⟩ ⟨S,ins j (.arw e k es []) O⟩ :=
 Wk.obj (st:=⟨S,O⟩) j hj fun _ _ _ _ _ h => by
  cases h with
  | arr hF xs hk0 hk hw hr => subst hF; exact .arw (fun g hg => (hw.lt g hg).2) xs hk0 hk hw (fun b hb => hb) hr (by simp)
theorem Wk.unarw {N : Nat} {S : List (Nat × AV)} {O : List (Nat × AO)} (j : Nat) {e : TypeId} {k : Nat} {es : List D} {vs : List (Nat × Nat)} (hj : lk j O=some (.arw e k es vs)) : Wk N ⟨S,O⟩ ⟨S,ins j (.arr e k es) O⟩:=fun Z β φ B M w0 a w h => by
 have hO:=h.objs j _ hj
 let φ':=updF φ j (ownS (β j))
 have hsub : ∀ i g,φ' i g->φ i g:=fun i g hg => by
  by_cases e1 : i=j
  . subst e1
    have hg : updF φ i (ownS (β i)) i g:=hg
    rw [updF_eq] at hg
    cases hO with
    | arw hlt xs hk0 hk hw hbb hr hv => exact hbb g hg
  . have hg : updF φ j (ownS (β j)) i g:=hg
    rwa [updF_ne i e1] at hg
 have hk : ∀ i x,lk i (ins j (.arr e k es) O)=some x->∃ y,lk i O=some y∧(x.isRes=false->y.isRes=false)∧((i=j∧x=.arr e k es)∨(i ≠ j∧x=y)):=fun i x hi => by
  rw [lk_ins] at hi
  split at hi
  . rename_i e1; subst e1; cases hi; exact ⟨_,hj,fun _ => rfl,.inl ⟨rfl,rfl⟩⟩
  . rename_i e1; exact ⟨x,hi,id,.inr ⟨e1,rfl⟩⟩
 have hm : ∀ g,free Z φ O g->g < w.heap.size->free Z φ' (ins j (.arr e k es) O) g∧w.heap[g]? = w.heap[g]? := fun g hg _ => ⟨⟨hg.1,fun i x hi hx hgi => by
  obtain ⟨y,hy,hyr,_⟩:=hk i x hi
  exact hg.2 i y hy (hyr hx) (hsub i g hgi)⟩,rfl⟩
 refine ⟨β,φ',h.nd.move hm,h.size,fun i av hi => (h.slots i av hi).move hm,fun i x hi => ?_,fun i x g hi hg => ?_,fun i i' x x' g hi hi' hg hg' => ?_,h.fr,h.z⟩
 . obtain ⟨y,hy,_,h1 | h1⟩:=hk i x hi
   . obtain ⟨rfl,rfl⟩:=h1
     show OK β _ w _ (β i) (updF φ i (ownS (β i)) i)
     rw [updF_eq]
     cases hO with
     | arw hlt xs hk0 hk hw hbb hr hv => exact .arr rfl xs hk0 hk hw fun n hn => (hr n hn).move hm
   . obtain ⟨h2,rfl⟩:=h1
     show OK β _ w _ (β i) (updF φ j (ownS (β j)) i)
     rw [updF_ne i h2]
     exact (h.objs i x hy).move hm (Nat.le_refl _) fun _ _ => rfl
 . obtain ⟨y,hy,_⟩:=hk i x hi
   exact h.own i y g hy (hsub i g hg)
 . obtain ⟨y,hy,_⟩:=hk i x hi
   obtain ⟨y',hy',_⟩:=hk i' x' hi'
   exact h.disj i i' y y' g hy hy' (hsub i g hg) (hsub i' g hg')
theorem Wk.cutOn {N : Nat} {S : List (Nat × AV)} {O : List (Nat × AO)} : Wk N ⟨S,O⟩ ⟨ins cutKey .undef S,O⟩:=fun Z β φ B M w0 a w h =>
 ⟨β,φ,h.nd,h.size,fun i av hi => by
  have hi : lk i (ins cutKey .undef S)=some av:=hi
  rw [lk_ins] at hi
  split at hi
  . cases hi; exact .undef _
  . exact h.slots i av hi,h.objs,h.own,h.disj,h.fr,h.z⟩
end Abs
