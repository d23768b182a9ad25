/- What functions of this program compute, over plain data. No condition. -/
import Derived.Test.YtiafnejjhnjbfaaDoorAbsLv
set_option linter.all false
namespace Abs
open Go Go.RowKit

mutual
def AV.shift (b : Nat) (oo : List (Nat × AO)) : AV->AV
 | .sl j => if (lk j oo).isSome then .sl (b + j) else .undef
 | .p j o => if (lk j oo).isSome then .p (b + j) o else .undef
 | .pe j k i o => if (lk j oo).isSome then .pe (b + j) k i o else .undef
 | .mq j => if (lk j oo).isSome then .mq (b + j) else .undef
 | .sf j k l => if (lk j oo).isSome then .sf (b + j) k l else .undef
 | .vw _ _ _ _ => .undef
 | .pv _ _ _ _ _ => .undef
 | .tup xs => .tup (AV.shiftL b oo xs)
 | .st xs => .st (AV.shiftL b oo xs)
 | .fn f cs => .fn f (AV.shiftL b oo cs)
 | .hdr _ _ => .undef
 | x => x
def AV.shiftL (b : Nat) (oo : List (Nat × AO)) : List AV->List AV
 | [] => []
 | x :: r => x.shift b oo :: AV.shiftL b oo r
end
theorem shiftL_length {b oo} : ∀ xs : List AV,(AV.shiftL b oo xs).length=xs.length
 | [] => rfl
 | x :: r => by simp [AV.shiftL,shiftL_length r]
theorem shiftL_getD {b oo} : ∀ (xs : List AV) (i : Nat),(AV.shiftL b oo xs).getD i .undef=(xs.getD i .undef).shift b oo
 | [],i => by simp [AV.shiftL,AV.shift]
 | x :: r,0 => by simp [AV.shiftL]
 | x :: r,i + 1 => by simpa [AV.shiftL] using shiftL_getD r i
def AO.shift (b : Nat) (oo : List (Nat × AO)) : AO->AO
 | .box e cells => .box e (AV.shiftL b oo cells)
 | .dp t es (some (c,some d)) => .dp t es (if (lk d oo).isSome then some (c,some (b + d)) else some (c,none))
 | .arw e k es _ => .arw e k es []
 | x => x
def shiftA (b : Nat) (oo : List (Nat × AO)) : List (Nat × AO)->List (Nat × AO)
 | [] => []
 | (k,v) :: r => (b + k,v.shift b oo) :: shiftA b oo r
def shiftO (b : Nat) (oo : List (Nat × AO)) : List (Nat × AO):=shiftA b oo oo

theorem lk_shiftA {b oo} (k : Nat) : ∀ l : List (Nat × AO),lk k (shiftA b oo l)=if b<=k then (lk (k - b) l).map (AO.shift b oo) else none
 | [] => by simp [shiftA,lk]
 | (j, v) :: r => by
   simp only [shiftA,lk,lk_shiftA k r]
   by_cases h : b<=k
   . simp only [if_pos h]
     by_cases e : k - b=j
     . rw [if_pos (by omega),if_pos e]; rfl
     . rw [if_neg (by omega),if_neg e]
   . rw [if_neg h,if_neg h,if_neg (by omega)]

def insAll : List (Nat × AO)->List (Nat × AO)->List (Nat × AO)
 | [],o => o
 | (k,v) :: r,o => ins k v (insAll r o)
theorem lk_insAll (i : Nat) : ∀ (l o : List (Nat × AO)),lk i (insAll l o)=match lk i l with | some x => some x | none => lk i o
 | [],o => rfl
 | (k, v) :: r, o => by
   simp only [insAll,lk_ins,lk]
   split
   . rfl
   . exact lk_insAll i r o


section
variable {P : Program} {Z : Nat->Prop} {β : Nat->Value} {φ : Nat->Nat->Prop} {N B : Nat} {M : Nat->Prop} {w0 : World} {st : St} {a : Act} {w : World}

theorem SimB.killL {β' : Nat->Value} {φ' : Nat->Nat->Prop} : ∀ {ks : List Nat} {β : Nat->Value} {φ : Nat->Nat->Prop} {st : St},SimB Z β φ N B M w0 st a w->(∀ i,i ∉ ks->β' i=β i)->(∀ i,i ∉ ks->φ' i=φ i)->SimB Z β' φ' N B M w0 (killL ks st) a w
 | [], β, φ, st, h, he, hf => by
   have : β'=β:=funext fun i => he i (by simp)
   have h2 : φ'=φ:=funext fun i => hf i (by simp)
   rw [this,h2]; exact h
 | k :: r, β, φ, st, h, he, hf => by
   have h1:=h.kill (β':=upd β k (β' k)) (φ':=updF φ k (φ' k)) k upd_ne updF_ne
   refine SimB.killL (ks:=r) h1 (fun i hi => ?_) fun i hi => ?_
   . by_cases e : i=k
     . subst e; rw [upd_eq]
     . rw [upd_ne i e]; exact he i (by simp; exact ⟨e,hi⟩)
   . by_cases e : i=k
     . subst e; rw [updF_eq]
     . rw [updF_ne i e]; exact hf i (by simp; exact ⟨e,hi⟩)

def ResRel (T : Nat->Prop) (lo : Nat) (w : World) (res : AV) (oo : List (Nat × AO)) (v : Value) : Prop :=
 ∃ β φ,Rel β (free T φ oo) w res v∧(∀ j o,lk j oo=some o->OK β (free T φ oo) w o (β j) (φ j))∧(∀ j o g,lk j oo=some o->φ j g->lo<=g) ∧
  ∀ j j' o o' g,lk j oo=some o->lk j' oo=some o'->φ j g->φ j' g->j=j'

theorem Rel.shift {βr β'' : Nat->Value} {S : Nat->Prop} {b oo} (he : ∀ j,(lk j oo).isSome=true->β'' (b + j)=βr j) : ∀ {av v},Rel βr S w av v->Rel β'' S w (av.shift b oo) v:=by
 intro av v h
 induction h with
 | undef v => exact .undef v
 | d h => exact .d h
 | sl j =>
   simp only [AV.shift]; split
   . rename_i hh; rw [← he j hh]; exact .sl _
   . exact .undef _
 | p h =>
   simp only [AV.shift]; split
   . rename_i hh; exact .p ((he _ hh).trans h)
   . exact .undef _
 | pe h =>
   simp only [AV.shift]; split
   . rename_i hh; exact .pe ((he _ hh).trans h)
   . exact .undef _
 | mq h =>
   simp only [AV.shift]; split
   . rename_i hh; exact .mq ((he _ hh).trans h)
   . exact .undef _
 | sf h hl =>
   simp only [AV.shift]; split
   . rename_i hh; exact .sf ((he _ hh).trans h) hl
   . exact .undef _
 | vw h => exact .undef _
 | pv h => exact .undef _
 | tup hl _ ih => exact .tup (by rw [shiftL_length]; exact hl) fun i hi => by rw [shiftL_length] at hi; rw [shiftL_getD]; exact ih i hi
 | fn hl _ ih => exact .fn (by rw [shiftL_length]; exact hl) fun i hi => by rw [shiftL_length] at hi; rw [shiftL_getD]; exact ih i hi
 | e0n => exact .e0n
 | e0s ad => exact .e0s ad
 | hdr h => exact .undef _
 | nilS => exact .nilS
 | st hl _ ih => exact .st (by rw [shiftL_length]; exact hl) fun i hi => by rw [shiftL_length] at hi; rw [shiftL_getD]; exact ih i hi

theorem shift_res {b : Nat} {oo : List (Nat × AO)} {o : AO} : (o.shift b oo).isRes=o.isRes:=by
 unfold AO.shift; split<;>rfl
theorem OK.shift {βr β'' : Nat->Value} {S : Nat->Prop} {b oo} (he : ∀ j,(lk j oo).isSome=true->β'' (b + j)=βr j) {o v F} (h : OK βr S w o v F) : OK β'' S w (o.shift b oo) v F:=by
 cases h with
 | box hF xs hv hw hr => exact .box hF xs hv (by rw [shiftL_length]; exact hw) fun i hi => by rw [shiftL_length] at hi; rw [shiftL_getD]; exact (hr i hi).shift he
 | arr hF xs hk0 hk hw hr => exact .arr hF xs hk0 hk hw hr
 | arv hF xs hv hk0 hk hw hr => exact .arv hF xs hv hk0 hk hw hr
 | mp b ms c hF hv hbb he => exact .mp b ms c hF hv hbb he
 | res hv hlt fs hr hf hd => exact .res hv hlt fs hr hf hd
 | arw hlt xs hk0 hk hw hbb hr hv => exact .arw hlt xs hk0 hk hw hbb hr (by simp)
 | view hF b c hv => exact .view hF b c hv
 | d1 hlt h => exact .d1 hlt h
 | dp hlt h =>
   rename_i t es ho
   rcases h with ⟨rfl,rfl,rfl,h⟩ | ⟨e,k,xs,fs,ht,h⟩
   . exact .dp hlt (.inl ⟨rfl,rfl,rfl,h⟩)
   . rcases ho with _ | ⟨c,_ | d⟩
     . exact .dp hlt (.inr ⟨e,k,xs,fs,ht,{ h with hh:=fun _ _ h => by cases h }⟩)
     . exact .dp hlt (.inr ⟨e,k,xs,fs,ht,{ h with hh:=fun _ _ h => by cases h }⟩)
     . simp only [AO.shift]
       split
       . rename_i hd
         exact .dp hlt (.inr ⟨e,k,xs,fs,ht,{ h with hr:=fun i hi hn => h.hr i hi fun c' d' e => by cases e; exact hn _ _ rfl,hh:=fun c' d' e => by cases e; rw [he _ hd]; exact h.hh _ _ rfl }⟩)
       . exact .dp hlt (.inr ⟨e,k,xs,fs,ht,{ h with hr:=fun i hi hn => h.hr i hi fun c' d' e => by cases e; exact hn _ none rfl,hh:=fun _ _ h => by cases h }⟩)

def impSt (st : St) (d b : Nat) (res : AV) (oo : List (Nat × AO)) : St :=
 let st1:=Abs.killL (oo.map fun p => b + p.1) st
 ⟨ins d (res.shift b oo) st1.s,insAll (shiftO b oo) st1.o⟩

theorem lk_some_mem {α : Type} {k : Nat} : ∀ {l : List (Nat × α)} {v},lk k l=some v->(k,v) ∈ l
 | (k', v') :: r, v, h => by
   simp only [lk] at h
   split at h
   . rename_i e; subst e; cases h; simp
   . exact List.mem_cons_of_mem _ (lk_some_mem h)
theorem SimB.imp (h : SimB Z β φ N B M w0 st a w) {w' : World} {T : Nat->Prop} {d b : Nat} {res oo v} (hf : Fr w.heap.size (fun _ => False) w w') (hr : ResRel T w.heap.size w' res oo v)
 (hT : ∀ g,T g->w.heap.size<=g∨free Z φ st.o g) (hd : d < N) : Sim Z N B M w0 (impSt st d b res oo) (a.put (some d) v) w':=by
 obtain ⟨βr,φr,hres,hobj,hlo,hdis⟩:=hr
 have hgrow : Gb w w' none:=⟨⟨hf.os,hf.tape,hf.output,hf.size,fun g hg _ => hf.block g hg (by simp)⟩,hf.drawn⟩
 let β'' : Nat->Value:=fun k => if b<=k∧(lk (k - b) oo).isSome=true then βr (k - b) else β k
 let φ'' : Nat->Nat->Prop:=fun k => if b<=k∧(lk (k - b) oo).isSome=true then φr (k - b) else φ k
 have hf' : ∀ j,(lk j oo).isSome=true->φ'' (b + j)=φr j:=fun j hj => by
  show (if b<=b + j∧(lk (b + j - b) oo).isSome=true then φr (b + j - b) else φ (b + j))=_
  have : b + j - b=j:=by omega
  rw [this,if_pos ⟨by omega,hj⟩]
 have he : ∀ j,(lk j oo).isSome=true->β'' (b + j)=βr j:=fun j hj => by
  show (if b<=b + j∧(lk (b + j - b) oo).isSome=true then βr (b + j - b) else β (b + j))=_
  have : b + j - b=j:=by omega
  rw [this,if_pos ⟨by omega,hj⟩]
 let ks:=oo.map fun p => b + p.1
 have hnot : ∀ i,i ∉ ks->¬ (b<=i∧(lk (i - b) oo).isSome=true):=fun i hi ⟨h1,h2⟩ => by
  obtain ⟨x,hx⟩:=Option.isSome_iff_exists.1 h2
  exact hi (List.mem_map.2 ⟨(i - b,x),lk_some_mem hx,by simp; omega⟩)
 have hk:=h.killL (β':=β'') (φ':=φ'') (ks:=ks) (fun i hi => if_neg (hnot i hi)) (fun i hi => if_neg (hnot i hi))
 have hkobj : ∀ {k o},lk k (Abs.killL ks st).o=some o->φ'' k=φ k∧∃ o',lk k st.o=some o':=fun {k o} hko => by
  obtain ⟨h1,h2⟩:=lk_killL hko
  exact ⟨if_neg (hnot k h1),h2⟩
 have hnewlk : ∀ {k o},lk k (shiftO b oo)=some o->∃ j x,k=b + j∧lk j oo=some x∧o=x.shift b oo:=fun {k o} hko => by
  unfold shiftO at hko
  rw [lk_shiftA] at hko
  split at hko
  . obtain ⟨x,h1,h2⟩:=Option.map_eq_some_iff.1 hko
    exact ⟨k - b,x,by omega,h1,h2.symm⟩
  . cases hko
 have hall : ∀ {k o},lk k (insAll (shiftO b oo) (Abs.killL ks st).o)=some o->(∃ j x,k=b + j∧lk j oo=some x∧o=x.shift b oo)∨lk k (Abs.killL ks st).o=some o:=fun {k o} hko => by
  rw [lk_insAll] at hko
  split at hko
  . rename_i x hx; cases hko; exact .inl (hnewlk hx)
  . exact .inr hko
 have hblk : ∀ g,g < w.heap.size->w'.heap[g]? = w.heap[g]? := fun g hg => hf.block g hg (by simp)
 have hm : ∀ g,free Z φ'' (Abs.killL ks st).o g->g < w.heap.size->free Z φ'' (insAll (shiftO b oo) (Abs.killL ks st).o) g∧w'.heap[g]? = w.heap[g]? := fun g hg hlt => by
  refine ⟨⟨hg.1,fun k o hko hox => ?_⟩,hblk g hlt⟩
  rcases hall hko with ⟨j,x,rfl,hj,_⟩ | hko
  . rw [hf' j (by rw [hj]; rfl)]
    intro hgo; have:=hlo j x g hj hgo; omega
  . exact hg.2 k o hko hox
 have hmT : ∀ g,free T φr oo g->g < w'.heap.size->free Z φ'' (insAll (shiftO b oo) (Abs.killL ks st).o) g∧w'.heap[g]? = w'.heap[g]? := fun g hg _ => by
  refine ⟨⟨?_,fun k o hko hox => ?_⟩,rfl⟩
  . rcases hT g hg.1 with h1 | h1
    . exact h.z g (.inl (Nat.le_trans h.fr.le h1))
    . exact h1.1
  . rcases hall hko with ⟨j,x,rfl,hj,rfl⟩ | hko
    . rw [hf' j (by rw [hj]; rfl)]; exact hg.2 j x hj (shift_res.symm.trans hox)
    . obtain ⟨e1,o',ho'⟩:=hkobj hko
      rw [e1]
      rcases hT g hg.1 with h1 | h1
      . intro hgo; have:=(h.objs k o' ho').block_lt hgo; omega
      . exact h1.2 k o' ho' ((killL_res hko ho').trans hox)
 have hsim : SimB Z β'' φ'' N B M w0 ⟨(Abs.killL ks st).s,insAll (shiftO b oo) (Abs.killL ks st).o⟩ a w':=by
  refine ⟨hk.nd.move hm,hk.size,fun i av hi => (hk.slots i av hi).move hm,fun k o hko => ?_,fun k o g hko hgo => ?_,fun k k' o o' g hko hko' hgo hgo' => ?_,h.fr.grown hgrow (by simp),h.z,h.gw⟩
  . rcases hall hko with ⟨j,x,rfl,hj,rfl⟩ | hko
    . show OK β'' _ w' _ (β'' (b + j)) (φ'' (b + j))
      rw [he j (by rw [hj]; rfl),hf' j (by rw [hj]; rfl)]
      exact ((hobj j x hj).shift he).move hmT (Nat.le_refl _) (fun _ _ => rfl)
    . exact (hk.objs k o hko).move hm hf.size fun g hgo => hblk g ((hk.objs k o hko).block_lt hgo)
  . rcases hall hko with ⟨j,x,rfl,hj,_⟩ | hko
    . rw [hf' j (by rw [hj]; rfl)] at hgo
      exact .inl (Nat.le_trans h.fr.le (hlo j x g hj hgo))
    . exact hk.own k o g hko hgo
  . rcases hall hko with ⟨j,x,rfl,hj,_⟩ | hko<;>rcases hall hko' with ⟨j',x',rfl,hj',_⟩ | hko'
    . rw [hf' j (by rw [hj]; rfl)] at hgo
      rw [hf' j' (by rw [hj']; rfl)] at hgo'
      rw [hdis j j' x x' g hj hj' hgo hgo']
    . rw [hf' j (by rw [hj]; rfl)] at hgo
      have h1:=hlo j x g hj hgo
      have h2:=(hk.objs k' o' hko').block_lt hgo'
      omega
    . rw [hf' j' (by rw [hj']; rfl)] at hgo'
      have h1:=hlo j' x' g hj' hgo'
      have h2:=(hk.objs k o hko).block_lt hgo
      omega
    . exact hk.disj k k' o o' g hko hko' hgo hgo'
 refine ⟨β'',φ'',hsim.put (dst:=some d) (fun _ e => by cases e; exact hd) ?_⟩
 exact (hres.shift he).move hmT
end
end Abs

namespace Abs
open Go Go.RowKit

mutual
def AV.ren (κ : Nat->Nat) : AV->AV
 | .sl j => .sl (κ j)
 | .p j o => .p (κ j) o
 | .pe j k i o => .pe (κ j) k i o
 | .mq j => .mq (κ j)
 | .sf j k l => .sf (κ j) k l
 | .vw j q n k => .vw (κ j) (κ q) n k
 | .pv j q k i fo => .pv (κ j) (κ q) k i fo
 | .tup xs => .tup (AV.renL κ xs)
 | .st xs => .st (AV.renL κ xs)
 | .fn f cs => .fn f (AV.renL κ cs)
 | .hdr j u => .hdr (κ j) u
 | x => x
def AV.renL (κ : Nat->Nat) : List AV->List AV
 | [] => []
 | x :: r => x.ren κ :: AV.renL κ r
end
theorem renL_length {κ} : ∀ xs : List AV,(AV.renL κ xs).length=xs.length
 | [] => rfl
 | x :: r => by simp [AV.renL,renL_length r]
def AO.ren (κ : Nat->Nat) : AO->AO
 | .box e cells => .box e (AV.renL κ cells)
 | .dp t es (some (c,some d)) => .dp t es (some (c,some (κ d)))
 | .arw e k es vs => .arw e k es (vs.map fun p => (κ p.1,p.2))
 | x => x

mutual
theorem Rel.unren {β : Nat->Value} {S : Nat->Prop} {w : World} {κ : Nat->Nat} : ∀ {av : AV} {v},Rel β S w (av.ren κ) v->Rel (fun j => β (κ j)) S w av v
 | .undef,v,h => .undef v
 | .d x,v,h => by simp only [AV.ren] at h; cases h with | d h => exact .d h
 | .sl j,v,h => by simp only [AV.ren] at h; cases h; exact Rel.sl (β:=fun j => β (κ j)) j
 | .p j o,v,h => by simp only [AV.ren] at h; cases h with | p hb => exact .p hb
 | .pe j k i o,v,h => by simp only [AV.ren] at h; cases h with | pe hb => exact .pe hb
 | .mq j,v,h => by simp only [AV.ren] at h; cases h with | mq hb => exact .mq hb
 | .sf j k l,v,h => by simp only [AV.ren] at h; cases h with | sf hb hl => exact .sf hb hl
 | .vw j q n k,v,h => by simp only [AV.ren] at h; cases h with | vw hb => exact .vw hb
 | .pv j q k i fo,v,h => by simp only [AV.ren] at h; cases h with | pv hb => exact .pv hb
 | .tup xs, v, h => by
   simp only [AV.ren] at h
   cases h with
   | tup hl hr => exact .tup (by rw [hl,renL_length]) (Rel.unrenL hr)
 | .st xs, v, h => by
   simp only [AV.ren] at h
   cases h with
   | st hl hr => exact .st (by rw [hl,renL_length]) (Rel.unrenL hr)
 | .fn f cs, v, h => by
   simp only [AV.ren] at h
   cases h with
   | fn hl hr => exact .fn (by rw [hl,renL_length]) (Rel.unrenL hr)
 | .e0, v, h => by
   simp only [AV.ren] at h
   cases h with
   | e0n => exact .e0n
   | e0s ad => exact .e0s ad
 | .hdr j u,v,h => by simp only [AV.ren] at h; cases h with | hdr hb => exact .hdr hb
 | .nilS,v,h => by simp only [AV.ren] at h; cases h; exact .nilS
theorem Rel.unrenL {β : Nat->Value} {S : Nat->Prop} {w : World} {κ : Nat->Nat} : ∀ {xs : List AV} {vs : List Value},(∀ i,i < (AV.renL κ xs).length->Rel β S w ((AV.renL κ xs).getD i .undef) (vs.getD i Go.undef)) ->
 ∀ i,i < xs.length->Rel (fun j => β (κ j)) S w (xs.getD i .undef) (vs.getD i Go.undef)
 | [],vs,h,i,hi => by simp at hi
 | x :: r, vs, h, i, hi => by
   cases i with
   | zero => 
     have:=h 0 (by simp [AV.renL])
     simp only [AV.renL,List.getD_cons_zero] at this ⊢
     exact Rel.unren this
   | succ i =>
     have:=Rel.unrenL (xs:=r) (vs:=vs.drop 1) (fun i hi => by
      have:=h (i + 1) (by simp [AV.renL]; exact hi)
      simpa [AV.renL,List.getD_eq_getElem?_getD,Nat.add_comm] using this) i (by simpa using hi)
     simpa [List.getD_eq_getElem?_getD,Nat.add_comm] using this
end
theorem ren_res {κ : Nat->Nat} {o : AO} : (o.ren κ).isRes=o.isRes:=by
 unfold AO.ren; split<;>rfl
theorem OK.unren {β : Nat->Value} {S : Nat->Prop} {w : World} {κ : Nat->Nat} {o : AO} {v F} (h : OK β S w (o.ren κ) v F) : OK (fun j => β (κ j)) S w o v F:=by
 cases o with
 | box e cells =>
   simp only [AO.ren] at h
   cases h with
   | box hF xs hv hw hr => exact .box hF xs hv (by rw [renL_length] at hw; exact hw) (Rel.unrenL hr)
 | arr e k es => cases h with | arr hF xs hk0 hk hw hr => exact .arr hF xs hk0 hk hw hr
 | arv e k es => cases h with | arv hF xs hv hk0 hk hw hr => exact .arv hF xs hv hk0 hk hw hr
 | mp q r es => cases h with | mp b ms c hF hv hbb he => exact .mp b ms c hF hv hbb he
 | res rs => cases h with | res hv hlt fs hr hf hd => exact .res hv hlt fs hr hf hd
 | arw e k es vs => cases h with | arw hlt xs hk0 hk hw hbb hr hv => exact .arw hlt xs hk0 hk hw hbb hr fun q n hq => hv (κ q) n (List.mem_map.2 ⟨(q,n),hq,rfl⟩)
 | view n => cases h with | view hF b c hv => exact .view hF b c hv
 | d1 es => cases h with | d1 hlt h => exact .d1 hlt h
 | dp t es ho =>
   have key : ∀ {ho'},OK β S w (.dp t es ho') v F->(ho'=none->ho=none)->(∀ c d,ho'=some (c,d)->∃ d',ho=some (c,d'))->(∀ c d,ho=some (c,some d)->ho'=some (c,some (κ d)))->OK (fun j => β (κ j)) S w (.dp t es ho) v F:=by
    intro ho' h h0 h1 h2
    cases h with
    | dp hlt h =>
      rcases h with ⟨rfl,e2,rfl,hE⟩ | ⟨e,k,xs,fs,ht,h⟩
      . exact .dp hlt (.inl ⟨rfl,h0 e2,rfl,hE⟩)
      . exact .dp hlt (.inr ⟨e,k,xs,fs,ht,{ h with hr:=fun i hi hn => h.hr i hi (fun c d e => by obtain ⟨d',e'⟩:=h1 c d e; exact hn c d' e'),hh:=fun c d e => h.hh _ _ (h2 c d e) }⟩)
   rcases ho with _ | ⟨c,_ | d⟩
   . exact key h id (fun _ _ h => by cases h) (fun _ _ h => by cases h)
   . exact key h id (fun _ _ h => by cases h; exact ⟨_,rfl⟩) (fun _ _ h => by cases h)
   . exact key h (fun h => by cases h) (fun _ _ h => by cases h; exact ⟨_,rfl⟩) (fun _ _ h => by cases h; rfl)


mutual
def AV.mv (ρ : Nat->Nat) (oo : List (Nat × AO)) : AV->AV
 | .sl j => if (lk j oo).isSome then .sl (ρ j) else .undef
 | .p j o => if (lk j oo).isSome then .p (ρ j) o else .undef
 | .pe j k i o => if (lk j oo).isSome then .pe (ρ j) k i o else .undef
 | .mq j => if (lk j oo).isSome then .mq (ρ j) else .undef
 | .sf j k l => if (lk j oo).isSome then .sf (ρ j) k l else .undef
 | .vw j q n k => if (lk q oo).isSome then .vw (ρ j) (ρ q) n k else .undef
 | .pv j q k i fo => if (lk q oo).isSome then .pv (ρ j) (ρ q) k i fo else .undef
 | .tup xs => .tup (AV.mvL ρ oo xs)
 | .st xs => .st (AV.mvL ρ oo xs)
 | .fn f cs => .fn f (AV.mvL ρ oo cs)
 | .hdr _ _ => .undef
 | x => x
def AV.mvL (ρ : Nat->Nat) (oo : List (Nat × AO)) : List AV->List AV
 | [] => []
 | x :: r => x.mv ρ oo :: AV.mvL ρ oo r
end
theorem mvL_length {ρ oo} : ∀ xs : List AV,(AV.mvL ρ oo xs).length=xs.length
 | [] => rfl
 | x :: r => by simp [AV.mvL,mvL_length r]
theorem mvL_getD {ρ oo} : ∀ (xs : List AV) (i : Nat),(AV.mvL ρ oo xs).getD i .undef=(xs.getD i .undef).mv ρ oo
 | [],i => by simp [AV.mvL,AV.mv]
 | x :: r,0 => by simp [AV.mvL]
 | x :: r,i + 1 => by simpa [AV.mvL] using mvL_getD r i
def AO.mv (ρ : Nat->Nat) (oo : List (Nat × AO)) : AO->AO
 | .box e cells => .box e (AV.mvL ρ oo cells)
 | .dp t es (some (c,some d)) => .dp t es (if (lk d oo).isSome then some (c,some (ρ d)) else some (c,none))
 | .arw e k es vs => .arw e k es ((vs.filter fun p => (lk p.1 oo).isSome).map fun p => (ρ p.1,p.2))
 | x => x
def mvO (ρ : Nat->Nat) (oo : List (Nat × AO)) : List (Nat × AO)->List (Nat × AO)
 | [] => []
 | (k,v) :: r => (ρ k,v.mv ρ oo) :: mvO ρ oo r

theorem lk_mvO {ρ oo k} : ∀ {l : List (Nat × AO)} {o},lk k (mvO ρ oo l)=some o->∃ j x,k=ρ j∧lk j l=some x∧o=x.mv ρ oo
 | (k', v) :: r, o, h => by
   simp only [mvO,lk] at h
   split at h
   . rename_i e; cases h; exact ⟨k',v,e,by simp [lk],rfl⟩
   . rename_i e
     obtain ⟨j,x,h1,h2,h3⟩:=lk_mvO h
     refine ⟨j,x,h1,?_,h3⟩
     simp only [lk]; rw [if_neg]; exact h2
     rintro rfl; exact e h1
theorem lk_mvO_some {ρ oo j} : ∀ {l : List (Nat × AO)},(lk j l).isSome=true->(lk (ρ j) (mvO ρ oo l)).isSome=true
 | (k', v) :: r, h => by
   simp only [mvO,lk] at h ⊢
   split
   . rfl
   . rename_i e
     split at h
     . rename_i e2; subst e2; exact absurd rfl e
     . exact lk_mvO_some h

def blocksOf (φ : Nat->Nat->Prop) (oi : List (Nat × AO)) (g : Nat) : Prop:=∃ j o,lk j oi=some o∧φ j g

def ResRelM (T lo : Nat->Prop) (β0 : Nat->Value) (keep : List Nat) (w : World) (res : AV) (oo : List (Nat × AO)) (v : Value) : Prop :=
 ∃ β φ,(∀ j ∈ keep,β j=β0 j)∧Rel β (free T φ oo) w res v∧(∀ j o,lk j oo=some o->OK β (free T φ oo) w o (β j) (φ j))∧(∀ j o g,lk j oo=some o->φ j g->lo g) ∧
  ∀ j j' o o' g,lk j oo=some o->lk j' oo=some o'->φ j g->φ j' g->j=j'

theorem Rel.mv {βr β'' : Nat->Value} {S : Nat->Prop} {w : World} {ρ : Nat->Nat} {oo} (he : ∀ j,(lk j oo).isSome=true->β'' (ρ j)=βr j) : ∀ {av v},Rel βr S w av v->Rel β'' S w (av.mv ρ oo) v:=by
 intro av v h
 induction h with
 | undef v => exact .undef v
 | d h => exact .d h
 | sl j =>
   simp only [AV.mv]; split
   . rename_i hh; rw [← he j hh]; exact .sl _
   . exact .undef _
 | p h =>
   simp only [AV.mv]; split
   . rename_i hh; exact .p ((he _ hh).trans h)
   . exact .undef _
 | pe h =>
   simp only [AV.mv]; split
   . rename_i hh; exact .pe ((he _ hh).trans h)
   . exact .undef _
 | mq h =>
   simp only [AV.mv]; split
   . rename_i hh; exact .mq ((he _ hh).trans h)
   . exact .undef _
 | sf h hl =>
   simp only [AV.mv]; split
   . rename_i hh; exact .sf ((he _ hh).trans h) hl
   . exact .undef _
 | vw h =>
   simp only [AV.mv]; split
   . rename_i hh; exact .vw ((he _ hh).trans h)
   . exact .undef _
 | pv h =>
   simp only [AV.mv]; split
   . rename_i hh; exact .pv ((he _ hh).trans h)
   . exact .undef _
 | tup hl _ ih => exact .tup (by rw [mvL_length]; exact hl) fun i hi => by rw [mvL_length] at hi; rw [mvL_getD]; exact ih i hi
 | fn hl _ ih => exact .fn (by rw [mvL_length]; exact hl) fun i hi => by rw [mvL_length] at hi; rw [mvL_getD]; exact ih i hi
 | e0n => exact .e0n
 | e0s ad => exact .e0s ad
 | hdr h => exact .undef _
 | nilS => exact .nilS
 | st hl _ ih => exact .st (by rw [mvL_length]; exact hl) fun i hi => by rw [mvL_length] at hi; rw [mvL_getD]; exact ih i hi

theorem mv_res {ρ : Nat->Nat} {oo : List (Nat × AO)} {o : AO} : (o.mv ρ oo).isRes=o.isRes:=by
 unfold AO.mv; split<;>rfl
theorem OK.mv {βr β'' : Nat->Value} {S : Nat->Prop} {w : World} {ρ : Nat->Nat} {oo} (he : ∀ j,(lk j oo).isSome=true->β'' (ρ j)=βr j) {o v F} (h : OK βr S w o v F) : OK β'' S w (o.mv ρ oo) v F:=by
 cases h with
 | box hF xs hv hw hr => exact .box hF xs hv (by rw [mvL_length]; exact hw) fun i hi => by rw [mvL_length] at hi; rw [mvL_getD]; exact (hr i hi).mv he
 | arr hF xs hk0 hk hw hr => exact .arr hF xs hk0 hk hw hr
 | arv hF xs hv hk0 hk hw hr => exact .arv hF xs hv hk0 hk hw hr
 | mp b ms c hF hv hbb he => exact .mp b ms c hF hv hbb he
 | res hv hlt fs hr hf hd => exact .res hv hlt fs hr hf hd
 | arw hlt xs hk0 hk hw hbb hr hv =>
   refine .arw hlt xs hk0 hk hw hbb hr fun q n hq => ?_
   obtain ⟨⟨q',n'⟩,h1,h2⟩:=List.mem_map.1 hq
   obtain ⟨h3,h4⟩:=List.mem_filter.1 h1
   cases h2
   rw [he q' h4]
   exact hv q' n' h3
 | view hF b c hv => exact .view hF b c hv
 | d1 hlt h => exact .d1 hlt h
 | dp hlt h =>
   rename_i t es ho
   rcases h with ⟨rfl,rfl,rfl,h⟩ | ⟨e,k,xs,fs,ht,h⟩
   . exact .dp hlt (.inl ⟨rfl,rfl,rfl,h⟩)
   . rcases ho with _ | ⟨c,_ | d⟩
     . exact .dp hlt (.inr ⟨e,k,xs,fs,ht,{ h with hh:=fun _ _ h => by cases h }⟩)
     . exact .dp hlt (.inr ⟨e,k,xs,fs,ht,{ h with hh:=fun _ _ h => by cases h }⟩)
     . simp only [AO.mv]
       split
       . rename_i hd
         exact .dp hlt (.inr ⟨e,k,xs,fs,ht,{ h with hr:=fun i hi hn => h.hr i hi fun c' d' e => by cases e; exact hn _ _ rfl,hh:=fun c' d' e => by cases e; rw [he _ hd]; exact h.hh _ _ rfl }⟩)
       . exact .dp hlt (.inr ⟨e,k,xs,fs,ht,{ h with hr:=fun i hi hn => h.hr i hi fun c' d' e => by cases e; exact hn _ none rfl,hh:=fun _ _ h => by cases h }⟩)

theorem AV.hasL_true {j : Nat} {xs : List AV} {i : Nat} (h : (xs.getD i .undef).has j=true) : AV.hasL j xs=true:=by
 cases hh : AV.hasL j xs with
 | true => rfl
 | false => rw [AV.hasL_getD hh i] at h; cases h
theorem Rel.agree {β β' : Nat->Value} {S w} : ∀ {av v},Rel β S w av v->(∀ j,av.has j=true->β' j=β j)->Rel β' S w av v:=by
 intro av v h
 induction h with
 | undef v => exact fun _ => .undef v
 | d h => exact fun _ => .d h
 | sl i => intro hh; rw [← hh i (by simp [AV.has])]; exact .sl i
 | p h => intro hh; exact .p ((hh _ (by simp [AV.has])).trans h)
 | pe h => intro hh; exact .pe ((hh _ (by simp [AV.has])).trans h)
 | mq h => intro hh; exact .mq ((hh _ (by simp [AV.has])).trans h)
 | sf h hl => intro hh; exact .sf ((hh _ (by simp [AV.has])).trans h) hl
 | vw h => intro hh; exact .vw ((hh _ (by simp [AV.has])).trans h)
 | pv h => intro hh; exact .pv ((hh _ (by simp [AV.has])).trans h)
 | tup hl _ ih => intro hh; exact .tup hl fun i hi => ih i hi fun j hj => hh j (by simp only [AV.has]; exact AV.hasL_true hj)
 | fn hl _ ih => intro hh; exact .fn hl fun i hi => ih i hi fun j hj => hh j (by simp only [AV.has]; exact AV.hasL_true hj)
 | e0n => exact fun _ => .e0n
 | e0s ad => exact fun _ => .e0s ad
 | hdr h => intro hh; exact .hdr ((hh _ (by simp [AV.has])).trans h)
 | nilS => exact fun _ => .nilS
 | st hl _ ih => intro hh; exact .st hl fun i hi => ih i hi fun j hj => hh j (by simp only [AV.has]; exact AV.hasL_true hj)

def impM (st : St) (dst : Option Nat) (ρ : Nat->Nat) (ks : List Nat) (res : AV) (oo : List (Nat × AO)) : St :=
 let st1:=killL ks st
 St.put ⟨st1.s,insAll (mvO ρ oo oo) st1.o⟩ dst (res.mv ρ oo)

section
variable {P : Program} {Z : Nat->Prop} {β : Nat->Value} {φ : Nat->Nat->Prop} {N B : Nat} {M : Nat->Prop} {w0 : World} {st : St} {a : Act} {w : World}

theorem SimB.impM (h : SimB Z β φ N B M w0 st a w) {w' : World} {T lo : Nat->Prop} {dst : Option Nat} {ρ κ : Nat->Nat} {ks keep : List Nat} {oi : List (Nat × AO)} {res oo v}
 (hoi : ∀ j o,lk j oi=some o->∃ o',lk (κ j) st.o=some o'∧o'.isRes=false) (hf : Fr w.heap.size (blocksOf (fun j => φ (κ j)) oi) w w') (hr : ResRelM T lo (fun j => β (κ j)) keep w' res oo v)
 (hlo : ∀ g,lo g->w.heap.size<=g∨blocksOf (fun j => φ (κ j)) oi g) (hT : ∀ g,T g->w.heap.size<=g∨blocksOf (fun j => φ (κ j)) oi g∨free Z φ st.o g)
 (hkeep : ∀ j ∈ keep,ρ j=κ j∧(lk j oo).isSome=true∧κ j ∉ ks) (hks : ∀ j,(lk j oi).isSome=true->j ∉ keep->κ j ∈ ks) (hks2 : ∀ j,(lk j oo).isSome=true->j ∉ keep->ρ j ∈ ks)
 (hinj : ∀ j j',(lk j oo).isSome=true->(lk j' oo).isSome=true->ρ j=ρ j'->j=j') (hd : ∀ d,dst=some d->d < N) :
 Sim Z N B M w0 (impM st dst ρ ks res oo) (a.put dst v) w':=by
 obtain ⟨βr,φr,hkp,hres,hobj,hown,hdis⟩:=hr
 let nm:=(oo.map (·.1)).filter fun j => (lk j oo).isSome
 let β'' : Nat->Value:=fun k => match nm.find? (fun j => decide (ρ j=k)) with
  | some j => βr j
  | none => β k
 let φ'' : Nat->Nat->Prop:=fun k => match nm.find? (fun j => decide (ρ j=k)) with
  | some j => φr j
  | none => φ k
 have hfound : ∀ j,(lk j oo).isSome=true->nm.find? (fun i => decide (ρ i=ρ j))=some j:=fun j hj => by
  cases hfi : nm.find? (fun i => decide (ρ i=ρ j)) with
  | none =>
    have:=List.find?_eq_none.1 hfi j (List.mem_filter.2 ⟨by obtain ⟨x,hx⟩:=Option.isSome_iff_exists.1 hj; exact List.mem_map.2 ⟨_,lk_some_mem hx,rfl⟩,hj⟩)
    simp at this
  | some i =>
    have h1:=List.find?_some hfi
    have h2:=(List.mem_filter.1 (List.mem_of_find?_eq_some hfi)).2
    simp only [decide_eq_true_eq] at h1
    rw [hinj i j h2 hj h1]
 have hmiss : ∀ k,(∀ j,(lk j oo).isSome=true->ρ j ≠ k)->nm.find? (fun i => decide (ρ i=k))=none:=fun k hk => by
  cases hfi : nm.find? (fun i => decide (ρ i=k)) with
  | none => rfl
  | some i =>
    have h1:=List.find?_some hfi
    have h2:=(List.mem_filter.1 (List.mem_of_find?_eq_some hfi)).2
    simp only [decide_eq_true_eq] at h1
    exact absurd h1 (hk i h2)
 have he : ∀ j,(lk j oo).isSome=true->β'' (ρ j)=βr j:=fun j hj => by
  show (match nm.find? (fun i => decide (ρ i=ρ j)) with | some j => βr j | none => β (ρ j))=βr j
  rw [hfound j hj]
 have hef : ∀ j,(lk j oo).isSome=true->φ'' (ρ j)=φr j:=fun j hj => by
  show (match nm.find? (fun i => decide (ρ i=ρ j)) with | some j => φr j | none => φ (ρ j))=φr j
  rw [hfound j hj]
 have hne : ∀ k,(∀ j,(lk j oo).isSome=true->ρ j ≠ k)->β'' k=β k:=fun k hk => by
  show (match nm.find? (fun i => decide (ρ i=k)) with | some j => βr j | none => β k)=β k
  rw [hmiss k hk]
 have hnef : ∀ k,(∀ j,(lk j oo).isSome=true->ρ j ≠ k)->φ'' k=φ k:=fun k hk => by
  show (match nm.find? (fun i => decide (ρ i=k)) with | some j => φr j | none => φ k)=φ k
  rw [hmiss k hk]
 have hks' : ∀ k,k ∉ ks->β'' k=β k:=fun k hk => by
  by_cases hh : ∃ j,(lk j oo).isSome=true∧ρ j=k
  . obtain ⟨j,h1,rfl⟩:=hh
    by_cases hj : j ∈ keep
    . rw [he j h1,hkp j hj,(hkeep j hj).1]
    . exact absurd (hks2 j h1 hj) hk
  . exact hne k fun j h1 h2 => hh ⟨j,h1,h2⟩
 have hall : ∀ {k o},lk k (insAll (mvO ρ oo oo) (Abs.killL ks st).o)=some o->(∃ j x,k=ρ j∧lk j oo=some x∧o=x.mv ρ oo) ∨
  ((∀ j,(lk j oo).isSome=true->ρ j ≠ k)∧lk k (Abs.killL ks st).o=some o):=fun {k o} hko => by
  rw [lk_insAll] at hko
  split at hko
  . rename_i x hx; cases hko; exact .inl (lk_mvO hx)
  . rename_i hx
    refine .inr ⟨fun j hj e => ?_,hko⟩
    subst e
    have:=lk_mvO_some (ρ:=ρ) (oo:=oo) hj
    rw [hx] at this; cases this
 have hcons : ∀ {k : Nat} {o g},(∀ j,(lk j oo).isSome=true->ρ j ≠ k)->k ∉ ks->lk k st.o=some o->φ k g->¬ blocksOf (fun j => φ (κ j)) oi g:=by
  rintro k o g h1 h2 h3 h4 ⟨j,oj,h5,h6⟩
  obtain ⟨o',h7,_⟩:=hoi j oj h5
  have e:=h.disj k (κ j) o o' g h3 h7 h4 h6
  subst e
  by_cases hj : j ∈ keep
  . obtain ⟨e1,e2,_⟩:=hkeep j hj
    exact h1 j e2 e1
  . exact h2 (hks j (by rw [h5]; rfl) hj)
 have hFb : ∀ g,free Z φ st.o g->¬ blocksOf (fun j => φ (κ j)) oi g:=fun g hg ⟨j,oj,h5,h6⟩ => by
  obtain ⟨o',h7,h8⟩:=hoi j oj h5
  exact hg.2 _ _ h7 h8 h6
 have hF : ∀ g,free Z φ st.o g->g < w.heap.size->free Z φ'' (insAll (mvO ρ oo oo) (Abs.killL ks st).o) g∧w'.heap[g]? = w.heap[g]? := fun g hg hlt => by
  refine ⟨⟨hg.1,fun k o hko hox => ?_⟩,hf.block g hlt (hFb g hg)⟩
  rcases hall hko with ⟨j,x,rfl,hj,_⟩ | ⟨h1,hko⟩
  . rw [hef j (by rw [hj]; rfl)]
    intro hgo
    rcases hlo g (hown j x g hj hgo) with h2 | h2
    . omega
    . exact hFb g hg h2
  . rw [hnef k h1]
    obtain ⟨_,o',ho',_⟩:=killL_o hko
    exact hg.2 k o' ho' ((killL_res hko ho').trans hox)
 have hFT : ∀ g,free T φr oo g->g < w'.heap.size->free Z φ'' (insAll (mvO ρ oo oo) (Abs.killL ks st).o) g∧w'.heap[g]? = w'.heap[g]? := fun g hg _ => by
  refine ⟨⟨?_,fun k o hko hox => ?_⟩,rfl⟩
  . rcases hT g hg.1 with h1 | ⟨j,oj,h5,h6⟩ | h1
    . exact h.z g (.inl (Nat.le_trans h.fr.le h1))
    . obtain ⟨o',h7,_⟩:=hoi j oj h5
      exact h.z g (h.own _ _ g h7 h6)
    . exact h1.1
  . rcases hall hko with ⟨j,x,rfl,hj,rfl⟩ | ⟨h1,hko⟩
    . rw [hef j (by rw [hj]; rfl)]; exact hg.2 j x hj (mv_res.symm.trans hox)
    . rw [hnef k h1]
      obtain ⟨h2,o',ho',_⟩:=killL_o hko
      intro hgo
      rcases hT g hg.1 with h3 | h3 | h3
      . have:=(h.objs k o' ho').block_lt hgo; omega
      . exact hcons h1 h2 ho' hgo h3
      . exact h3.2 k o' ho' ((killL_res hko ho').trans hox) hgo
 have hsim : SimB Z β'' φ'' N B M w0 ⟨(Abs.killL ks st).s,insAll (mvO ρ oo oo) (Abs.killL ks st).o⟩ a w':=by
  refine ⟨h.nd.move hF,h.size,fun i av hi => ?_,fun k o hko => ?_,fun k o g hko hgo => ?_,fun k k' o o' g hko hko' hgo hgo' => ?_,?_,h.z,h.gw⟩
  . rcases killL_s hi with rfl | ⟨h1,h2⟩
    . exact .undef _
    . refine ((h.slots i av h1).move hF).agree fun j hj => hks' j fun hjk => ?_
      rw [h2 j hjk] at hj; cases hj
  . rcases hall hko with ⟨j,x,rfl,hj,rfl⟩ | ⟨h1,hko⟩
    . show OK β'' _ w' _ (β'' (ρ j)) (φ'' (ρ j))
      rw [he j (by rw [hj]; rfl),hef j (by rw [hj]; rfl)]
      exact ((hobj j x hj).mv he).move hFT (Nat.le_refl _) (fun _ _ => rfl)
    . show OK β'' _ w' _ (β'' k) (φ'' k)
      rw [hne k h1,hnef k h1]
      obtain ⟨h2,o',ho',h3⟩:=killL_o hko
      refine OK.move hF hf.size (fun g hgo => ?_) (h3 β β'' _ w _ _ hks' (h.objs k o' ho'))
      exact hf.block g ((h.objs k o' ho').block_lt hgo) (hcons h1 h2 ho' hgo)
  . rcases hall hko with ⟨j,x,rfl,hj,_⟩ | ⟨h1,hko⟩
    . rw [hef j (by rw [hj]; rfl)] at hgo
      rcases hlo g (hown j x g hj hgo) with h2 | ⟨j,oj,h5,h6⟩
      . exact .inl (Nat.le_trans h.fr.le h2)
      . obtain ⟨o',h7,_⟩:=hoi j oj h5
        exact h.own _ _ g h7 h6
    . rw [hnef k h1] at hgo
      obtain ⟨h2,o',ho',_⟩:=killL_o hko
      exact h.own k o' g ho' hgo
  . have cross : ∀ {j x k o},lk j oo=some x->φr j g->(∀ j,(lk j oo).isSome=true->ρ j ≠ k)->lk k (Abs.killL ks st).o=some o->φ k g->False:=by
     intro j x k o hj hgo h1 hko hgk
     obtain ⟨h2,o',ho',_⟩:=killL_o hko
     rcases hlo g (hown j x g hj hgo) with h3 | h3
     . have:=(h.objs k o' ho').block_lt hgk; omega
     . exact hcons h1 h2 ho' hgk h3
    rcases hall hko with ⟨j,x,rfl,hj,_⟩ | ⟨h1,hko⟩<;>rcases hall hko' with ⟨j',x',rfl,hj',_⟩ | ⟨h1',hko'⟩
    . rw [hef j (by rw [hj]; rfl)] at hgo
      rw [hef j' (by rw [hj']; rfl)] at hgo'
      rw [hdis j j' x x' g hj hj' hgo hgo']
    . rw [hef j (by rw [hj]; rfl)] at hgo
      rw [hnef k' h1'] at hgo'
      exact (cross hj hgo h1' hko' hgo').elim
    . rw [hef j' (by rw [hj']; rfl)] at hgo'
      rw [hnef k h1] at hgo
      exact (cross hj' hgo' h1 hko hgo).elim
    . rw [hnef k h1] at hgo
      rw [hnef k' h1'] at hgo'
      obtain ⟨_,o1,ho1,_⟩:=killL_o hko
      obtain ⟨_,o2,ho2,_⟩:=killL_o hko'
      exact h.disj k k' o1 o2 g ho1 ho2 hgo hgo'
  . refine ⟨hf.os.trans h.fr.os,hf.tape.trans h.fr.tape,hf.output.trans h.fr.output,Nat.le_trans h.fr.le hf.size,Nat.le_trans h.fr.size hf.size,fun g hgB hgM => ?_,Nat.le_trans h.fr.drawn hf.drawn⟩
    rw [hf.block g (Nat.lt_of_lt_of_le hgB h.fr.le)]
    . exact h.fr.block g hgB hgM
    . rintro ⟨j,oj,h5,h6⟩
      obtain ⟨o',h7,_⟩:=hoi j oj h5
      rcases h.own _ _ g h7 h6 with h8 | h8
      . omega
      . exact hgM h8
 exact ⟨β'',φ'',hsim.put hd ((hres.mv he).move hFT)⟩
end
end Abs
