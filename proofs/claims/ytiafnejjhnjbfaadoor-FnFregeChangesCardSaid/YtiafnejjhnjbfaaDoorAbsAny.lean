/- A region that draws its order: the walk in the order of the text serves every order. No condition but the region's own check. -/
import Derived.Test.YtiafnejjhnjbfaaDoorAbsSW
set_option linter.all false
namespace Abs
open Go Go.RowKit

section
variable {P : Program} {Z : Nat->Prop} {N B : Nat} {M : Nat->Prop} {w0 : World}

def Closed (l : List Oper) (listed : Array Bool) : Prop:=∀ k o,l[k]? = some o->listed.getD k false=true->∀ e ∈ o.after,Region.binds .any e=true->listed.getD e.on false=true

theorem Closed.dep {l : List Oper} {listed : Array Bool} (hc : Closed l listed) : ∀ {k m},Dep l k m->listed.getD k false=true->listed.getD m false=true:=by
 intro k m h
 induction h with
 | direct h he hb hm => intro hk; subst hm; exact hc _ _ h hk _ he hb
 | trans _ _ ih1 ih2 => intro hk; exact ih2 (ih1 hk)
theorem Closed.ready {l : List Oper} {listed : Array Bool} (hc : Closed l listed) : ∀ {j m},Dep l j m->(∀ o,l[j]? = some o->∀ e ∈ o.after,Region.binds .any e=true->listed.getD e.on false=true)->listed.getD m false=true:=by
 intro j m h
 induction h with
 | direct h he hb hm => intro hj; subst hm; exact hj _ h _ he hb
 | trans h1 h2 ih1 _ => intro hj; exact hc.dep h2 (ih1 hj)

theorem ready_iff {l : List Oper} {listed : Array Bool} {j : Nat} : j ∈ Region.ready .any l.toArray listed ↔
 listed.getD j true=false∧∃ o,l[j]? = some o∧∀ e ∈ o.after,Region.binds .any e=true->listed.getD e.on false=true:=by
 rw [mem_ready]; simp

structure Checked' (l : List Oper) (n : Nat) : Prop where
 le : n<=l.length
 back : ∀ i o,l[i]? = some o->∀ e ∈ o.after,Region.binds .any e=true->e.on < i
 apart : ∀ k m ok om,k < n->m < n->k ≠ m->l[k]? = some ok->l[m]? = some om->∀ s,om.dst=some s->ok.dst ≠ some s∧(s ∈ looks l ok->if m < k then Dep l k m else Dep l m k)
 sink : n < l.length->∀ i,i < n->Dep l n i
 chain : ∀ t,n < t->t < l.length->Dep l t (t - 1)

theorem regionOK_spec {l : List Oper} {n : Nat} (h : regionOK l n=true) : Checked' l n:=by
 unfold regionOK at h
 simp only [Bool.and_eq_true,decide_eq_true_eq] at h
 obtain ⟨⟨⟨⟨h1,_⟩,h3⟩,h4⟩,h5⟩:=h
 have zip : ∀ {l' : List Oper} {p : Oper × Nat->Bool},l'.zipIdx.all p=true->∀ i o,l'[i]? = some o->p (o,i)=true:=by
  intro l' p hp i o ho
  rw [List.all_eq_true] at hp
  exact hp _ (List.mem_iff_getElem?.2 ⟨i,by simp [List.getElem?_zipIdx,ho]⟩)
 refine ⟨h1,fun i o ho e he hb => ?_,fun k m ok om hk hm hne hok hom s hs => ?_,fun hn i hi => ?_,fun t ht htl => ?_⟩
 . have:=zip h3 i o ho
   simp only [Array.all_eq_true_iff_forall_mem] at this
   have:=this e he
   simp [hb] at this
   exact this
 . have a1:=zip h4 k ok (by rw [List.getElem?_take,if_pos hk]; exact hok)
   have a2:=zip a1 m om (by rw [List.getElem?_take,if_pos hm]; exact hom)
   simp only [Bool.or_eq_true,beq_iff_eq] at a2
   have a3:=a2.resolve_left hne
   unfold clash at a3
   rw [hs] at a3
   simp only [Bool.and_eq_true,bne_iff_ne,ne_eq,Bool.or_eq_true,Bool.not_eq_true'] at a3
   refine ⟨a3.1,fun hmem => ?_⟩
   rcases a3.2 with h6 | h6
   . have : (looks l ok).contains s=true:=by simpa using hmem
     rw [this] at h6; cases h6
   . split
     . rename_i hlt; rw [if_pos hlt] at h6; exact masks_spec h6
     . rename_i hlt; rw [if_neg hlt] at h6; exact masks_spec h6
 . rw [List.all_eq_true] at h5
   have:=h5 n (List.mem_range.2 hn)
   simp only [Nat.lt_irrefl,if_false,if_true] at this
   rw [List.all_eq_true] at this
   exact masks_spec (this i (List.mem_range.2 hi))
 . rw [List.all_eq_true] at h5
   have:=h5 t (List.mem_range.2 htl)
   rw [if_neg (by omega),if_neg (by omega)] at this
   exact masks_spec this

theorem set_getD {listed : Array Bool} {i k : Nat} (hi : i < listed.size) (d : Bool) : (listed.setIfInBounds i true).getD k d=if k=i then true else listed.getD k d:=by
 by_cases h : k=i
 . subst h; simp [hi]
 . rw [if_neg h]; exact getD_set_ne d (Ne.symm h)

theorem Closed.set {l : List Oper} {listed : Array Bool} (hc : Closed l listed) (hsz : listed.size=l.length) {i} (hi : i ∈ Region.ready .any l.toArray listed) : Closed l (listed.setIfInBounds i true):=by
 obtain ⟨h1,o,ho,h2⟩:=ready_iff.1 hi
 have hlt : i < listed.size:=by rw [hsz]; exact (List.getElem?_eq_some_iff.1 ho).1
 intro k ok hk hkl e he hb
 rw [set_getD hlt] at hkl ⊢
 split
 . rfl
 . split at hkl
   . rename_i e'; subst e'
     rw [ho] at hk; cases hk
     exact h2 e he hb
   . exact hc k ok hk hkl e he hb

theorem any_tail {l : List Oper} {n : Nat} (hC : Checked' l n) {K : St->Prop} {Q : Exit->Act->World->Prop} (hQ : ∀ st a w,Sim Z N B M w0 st a w->K st->Q .normal a w) :
 ∀ (r : List Oper) (t : Nat) (listed : Array Bool) (st : St) (a : Act) (w : World),n<=t->l.drop t=r->listed.size=l.length->(∀ k,k < l.length->listed.getD k false=decide (k < t)) ->
  Sim Z N B M w0 st a w->opsA P N l r st K->wpAny P .any l.toArray Q r.length listed a w
 | [], t, listed, st, a, w, hnt, hdr, hsz, hl, hs, hq => by
   have hlen : l.length<=t:=by
    have:=congrArg List.length hdr; simp at this; omega
   refine ⟨?_,hQ _ _ _ hs hq⟩
   cases hr : Region.ready .any l.toArray listed with
   | nil => rfl
   | cons x xs =>
     have hx : x ∈ Region.ready .any l.toArray listed:=by rw [hr]; simp
     obtain ⟨h1,o,ho,_⟩:=ready_iff.1 hx
     have hxl:=(List.getElem?_eq_some_iff.1 ho).1
     have h2:=hl x hxl
     have : listed.getD x true=listed.getD x false:=by simp [show x < listed.size by omega]
     rw [this,h2] at h1
     simp at h1; omega
 | o :: r, t, listed, st, a, w, hnt, hdr, hsz, hl, hs, hq => by
   have ho : l[t]? = some o:=by
    have:=congrArg (fun x : List Oper => x[0]?) hdr
    simpa using this
   have htl : t < l.length:=(List.getElem?_eq_some_iff.1 ho).1
   have hdr' : l.drop (t + 1)=r:=by
    have:=congrArg List.tail hdr
    simpa using this
   have hgd : ∀ x,x < l.length->listed.getD x true=decide (x < t):=fun x hx => by
    have : listed.getD x true=listed.getD x false:=by simp [show x < listed.size by omega]
    rw [this]; exact hl x hx
   have hready : ∀ i,i ∈ Region.ready .any l.toArray listed↔i=t:=fun i => by
    rw [ready_iff]
    constructor
    . rintro ⟨h1,oi,hoi,h2⟩
      have hil:=(List.getElem?_eq_some_iff.1 hoi).1
      rw [hgd i hil] at h1
      have hit : t<=i:=by simpa using h1
      rcases Nat.lt_or_ge t i with hlt | hge
      . exfalso
        have hcl : Closed l listed:=fun k ok hk hkl e he hb => by
         have hkl':=(List.getElem?_eq_some_iff.1 hk).1
         rw [hl k hkl'] at hkl
         have:=hC.back k ok hk e he hb
         rw [hl e.on (by omega)]
         simp at hkl ⊢; omega
        have hd:=hC.chain i (by omega) hil
        have:=hcl.ready hd (fun o' ho' => by rw [hoi] at ho'; cases ho'; exact h2)
        rw [hl (i - 1) (by omega)] at this
        simp at this; omega
      . omega
    . rintro rfl
      refine ⟨by rw [hgd i htl]; simp,o,ho,fun e he hb => ?_⟩
      have:=hC.back i o ho e he hb
      rw [hl e.on (by omega)]; simpa using this
   refine ⟨fun h0 => ?_,fun i hi => ?_⟩
   . have:=(hready t).2 rfl
     rw [h0] at this; cases this
   . have:=(hready i).1 hi
     subst this
     unfold wpOp
     have ho' : (l.toArray)[i]? = some o:=by simpa using ho
     rw [ho']
     simp only
     have hst:=stepA_spec hs hq (K':=wpAny P .any l.toArray Q r.length (listed.setIfInBounds i true)) (Q:=Q) fun st' a' w' hs' hk => by
      refine any_tail hC hQ r (i + 1) _ st' a' w' (by omega) hdr' (by simpa using hsz) (fun k hk' => ?_) hs' hk
      rw [set_getD (by omega)]
      split
      . rename_i e; subst e; simp
      . rw [hl k hk']
        by_cases h : k < i
        . simp [h]; omega
        . simp [h]; omega
     split
     . rename_i hw; rw [if_pos hw] at hst; exact .inl hst
     . rename_i hw; rw [if_neg hw] at hst; exact hst

section
variable {l : List Oper} {n : Nat} (hC : Checked' l n) (V : Nat->AV) (s0 : List (Nat × AV))

theorem upto_in (L : Nat->Bool) {k o s} (hC : Checked' l n) (hk : k < n) (hL : L k=true) (ho : l[k]? = some o) (hd : o.dst=some s) : upto l V s0 n L s=some (V k):=by
 unfold upto
 cases hf : (List.range n).find? fun k => L k && (((l[k]?).bind (·.dst)) == some s) with
 | none =>
   rw [List.find?_eq_none] at hf
   have:=hf k (List.mem_range.2 hk)
   simp [hL,ho,hd] at this
 | some m =>
   have h1:=List.find?_some hf
   have h2:=List.mem_range.1 (List.mem_of_find?_eq_some hf)
   simp only [Bool.and_eq_true,beq_iff_eq] at h1
   cases hm : l[m]? with
   | none => rw [hm] at h1; simp at h1
   | some om =>
     rw [hm] at h1
     have hmd : om.dst=some s:=by simpa using h1.2
     by_cases e : k=m
     . subst e; rfl
     . exact absurd hd (hC.apart k m o om hk h2 e ho hm s hmd).1
theorem upto_out (L : Nat->Bool) {s} (h : ∀ k o,k < n->L k=true->l[k]? = some o->o.dst ≠ some s) : upto l V s0 n L s=lk s s0:=by
 unfold upto
 have : (List.range n).find? (fun k => L k && (((l[k]?).bind (·.dst)) == some s))=none:=by
  rw [List.find?_eq_none]
  intro k hk
  have hk:=List.mem_range.1 hk
  simp only [Bool.and_eq_true,beq_iff_eq,not_and]
  intro hL hd
  cases ho : l[k]? with
  | none => rw [ho] at hd; simp at hd
  | some o => rw [ho] at hd; exact h k o hk hL ho (by simpa using hd)
 rw [this]
end

theorem lk_put {st : St} {dst : Option Nat} {v : AV} (s : Nat) : lk s (st.put dst v).s=if dst=some s then some v else lk s st.s:=by
 cases dst with
 | none => simp [St.put]
 | some d =>
   simp only [St.put,lk_ins]
   by_cases h : s=d
   . subst h; simp
   . rw [if_neg h,if_neg (by simp; exact fun e => h e.symm)]

theorem any_head {l : List Oper} {n : Nat} (hC : Checked' l n) {K : St->Prop} {Q : Exit->Act->World->Prop} (hQ : ∀ st a w,Sim Z N B M w0 st a w->K st->Q .normal a w)
 {st0 : St} {V : Nat->AV} {S : Nat->St} (hS0 : S 0=st0) (hY : ∀ k o,(l.take n)[k]? = some o->Yl P N l (S k) o (V k)∧S (k + 1)=(S k).put o.dst (V k)) (hK : opsA P N l (l.drop n) (S n) K) :
 ∀ (fuel : Nat) (listed : Array Bool) (st : St) (a : Act) (w : World),listed.size=l.length->Closed l listed->(∀ t,n<=t->t < l.length->listed.getD t false=false) ->
  fuel=(List.range l.length).countP (fun k => !listed.getD k false)->st.o=st0.o->(∀ s,lk s st.s=upto l V st0.s n (fun k => listed.getD k false) s) ->
  Sim Z N B M w0 st a w->wpAny P .any l.toArray Q fuel listed a w:=by
 have hT : ∀ {k o},k < n->l[k]? = some o->Yl P N l (S k) o (V k)∧S (k + 1)=(S k).put o.dst (V k):=fun hk ho => hY _ _ (by rw [List.getElem?_take,if_pos hk]; exact ho)
 -- the text's own states
 have hSk : ∀ k,k<=n->(S k).o=st0.o∧∀ s,lk s (S k).s=upto l V st0.s n (fun m => decide (m < k)) s:=by
  intro k
  induction k with
  | zero => intro _; rw [hS0]; exact ⟨rfl,fun s => (upto_out V st0.s _ (by simp)).symm⟩
  | succ k ih =>
    intro hk
    obtain ⟨h1,h2⟩:=ih (by omega)
    have hkl : k < l.length:=by have:=hC.le; omega
    obtain ⟨o,ho⟩ : ∃ o,l[k]? = some o:=⟨l[k],by simp [hkl]⟩
    obtain ⟨_,h3⟩:=hT (by omega) ho
    rw [h3]
    refine ⟨by cases hd : o.dst<;>simp [St.put,h1],fun s => ?_⟩
    rw [lk_put]
    split
    . rename_i hd
      exact (upto_in V st0.s _ hC (by omega) (by simp) ho hd).symm
    . rename_i hd
      rw [h2]
      by_cases hw : ∃ m om,m < n∧m < k∧l[m]? = some om∧om.dst=some s
      . obtain ⟨m,om,hmn,hmk,hom,hmd⟩:=hw
        rw [upto_in V st0.s _ hC hmn (by simpa using hmk) hom hmd,upto_in V st0.s _ hC hmn (by simp; omega) hom hmd]
      . rw [upto_out V st0.s _ fun m om hmn hml hom hmd => hw ⟨m,om,hmn,by simpa using hml,hom,hmd⟩,
         upto_out V st0.s _ fun m om hmn hml hom hmd => by
          have hmk : m < k + 1:=by simpa using hml
          by_cases e : m=k
          . subst e; rw [ho] at hom; cases hom; exact hd hmd
          . exact hw ⟨m,om,hmn,by omega,hom,hmd⟩]
 intro fuel
 induction fuel with
 | zero =>
   intro listed st a w hsz hcl htail hcnt ho hlk hs
   -- all is listed
   have hall : ∀ k,k < l.length->listed.getD k false=true:=fun k hk => by
    have:=List.countP_eq_zero.1 hcnt.symm k (List.mem_range.2 hk)
    simpa using this
   have hn : l.length<=n:=by
    rcases Nat.lt_or_ge n l.length with h | h
    . have h1:=htail n (Nat.le_refl _) h; rw [hall n h] at h1; cases h1
    . exact h
   have hn' : n=l.length:=Nat.le_antisymm hC.le hn
   refine any_tail hC hQ [] n listed (S n) a w (Nat.le_refl _) (by rw [hn']; simp) hsz (fun k hk => by rw [hall k hk]; simp; omega) ?_ ?_
   . obtain ⟨β,φ,hB⟩:=hs
     obtain ⟨h1,h2⟩:=hSk n (Nat.le_refl _)
     have:=hB.sub (s':=(S n).s) fun i av hi => .inr (by
      rw [hlk]
      rw [h2] at hi
      rw [← hi]
      by_cases hw : ∃ m om,m < n∧l[m]? = some om∧om.dst=some i
      . obtain ⟨m,om,hmn,hom,hmd⟩:=hw
        rw [upto_in V st0.s _ hC hmn (hall m (by omega)) hom hmd,upto_in V st0.s _ hC hmn (by simpa using hmn) hom hmd]
      . rw [upto_out V st0.s _ fun m om hmn _ hom hmd => hw ⟨m,om,hmn,hom,hmd⟩,upto_out V st0.s _ fun m om hmn _ hom hmd => hw ⟨m,om,hmn,hom,hmd⟩])
     refine ⟨β,φ,?_⟩
     have e : S n={ st with s:=(S n).s }:=by cases hSn : S n; rw [hSn] at h1; simp only at h1 ⊢; rw [h1,← ho]
     rw [e]; exact this
   . have : l.drop n=[]:=by rw [hn']; simp
     rw [this] at hK; exact hK
 | succ fuel ih =>
   intro listed st a w hsz hcl htail hcnt ho hlk hs
   by_cases hallh : ∀ k,k < n->listed.getD k false=true
   . -- the tail
     have hl : ∀ k,k < l.length->listed.getD k false=decide (k < n):=fun k hk => by
      by_cases h : k < n
      . rw [hallh k h]; simp [h]
      . rw [htail k (by omega) hk]; simp [h]
     have hlen : (l.drop n).length=fuel + 1:=by
      rw [hcnt,List.length_drop]
      have e1 : (List.range l.length).countP (fun k => !listed.getD k false)=(List.range l.length).countP (fun k => decide (n<=k)):=by
       apply List.countP_congr
       intro k hk
       rw [hl k (List.mem_range.1 hk)]
       simp
      rw [e1]
      have hsplit : l.length=n + (l.length - n):=by have:=hC.le; omega
      rw [hsplit,List.range_add,List.countP_append]
      have e2 : (List.range n).countP (fun k => decide (n<=k))=0:=by
       rw [List.countP_eq_zero]; intro k hk; have:=List.mem_range.1 hk; simp; omega
      have e3 : ((List.range (l.length - n)).map (n + ·)).countP (fun k => decide (n<=k))=l.length - n:=by
       rw [List.countP_map]
       have : (List.range (l.length - n)).countP ((fun k => decide (n<=k)) ∘ fun x => n + x)=(List.range (l.length - n)).length:=by
        rw [List.countP_eq_length]; intro k _; simp
       rw [this]; simp
      rw [e2,e3]; omega
     rw [← hlen]
     refine any_tail hC hQ (l.drop n) n listed (S n) a w (Nat.le_refl _) rfl hsz hl ?_ hK
     obtain ⟨β,φ,hB⟩:=hs
     obtain ⟨h1,h2⟩:=hSk n (Nat.le_refl _)
     have:=hB.sub (s':=(S n).s) fun i av hi => .inr (by
      rw [hlk]
      rw [h2] at hi
      rw [← hi]
      by_cases hw : ∃ m om,m < n∧l[m]? = some om∧om.dst=some i
      . obtain ⟨m,om,hmn,hom,hmd⟩:=hw
        rw [upto_in V st0.s _ hC hmn (hallh m hmn) hom hmd,upto_in V st0.s _ hC hmn (by simpa using hmn) hom hmd]
      . rw [upto_out V st0.s _ fun m om hmn _ hom hmd => hw ⟨m,om,hmn,hom,hmd⟩,upto_out V st0.s _ fun m om hmn _ hom hmd => hw ⟨m,om,hmn,hom,hmd⟩])
     refine ⟨β,φ,?_⟩
     have e : S n={ st with s:=(S n).s }:=by cases hSn : S n; rw [hSn] at h1; simp only at h1 ⊢; rw [h1,← ho]
     rw [e]; exact this
   . -- one of the head
     refine ⟨fun h0 => ?_,fun i hi => ?_⟩
     . -- something is ready
       exfalso
       have hex : ∃ k,k < l.length∧listed.getD k false=false∧∀ m,m < k->listed.getD m false=true:=by
        have h1 : ∃ k,k < l.length∧listed.getD k false=false:=by
         refine Classical.byContradiction fun hno => hallh fun k hk => ?_
         cases hh : listed.getD k false with
         | true => rfl
         | false => exact absurd ⟨k,by have:=hC.le; omega,hh⟩ hno
        obtain ⟨k,hk⟩:=h1
        induction k using Nat.strongRecOn with
        | _ k ihk =>
          by_cases h2 : ∃ m,m < k∧listed.getD m false=false
          . obtain ⟨m,hm,hm2⟩:=h2
            exact ihk m hm ⟨by omega,hm2⟩
          . refine ⟨k,hk.1,hk.2,fun m hm => ?_⟩
            cases hh : listed.getD m false with
            | true => rfl
            | false => exact absurd ⟨m,hm,hh⟩ h2
       obtain ⟨k,hkl,hkf,hkm⟩:=hex
       have : k ∈ Region.ready .any l.toArray listed:=by
        rw [ready_iff]
        refine ⟨?_,l[k],by simp [hkl],fun e he hb => hkm _ (hC.back k l[k] (by simp [hkl]) e he hb)⟩
        have : listed.getD k true=listed.getD k false:=by simp [show k < listed.size by omega]
        rw [this]; exact hkf
       rw [h0] at this; cases this
     . obtain ⟨h1,o,hoi,h2⟩:=ready_iff.1 hi
       have hil:=(List.getElem?_eq_some_iff.1 hoi).1
       have hif : listed.getD i false=false:=by
        have : listed.getD i true=listed.getD i false:=by simp [show i < listed.size by omega]
        rw [← this]; exact h1
       have hdep : ∀ {m},Dep l i m->listed.getD m false=true:=fun hd => hcl.ready hd fun o' ho' => by rw [hoi] at ho'; cases ho'; exact h2
       have hin : i < n:=by
        rcases Nat.lt_or_ge i n with h | h
        . exact h
        . exfalso
          by_cases e : i=n
          . subst e
            exact hallh fun k hk => hdep (hC.sink hil k hk)
          . have h3:=hdep (hC.chain i (by omega) hil)
            rw [htail (i - 1) (by omega) (by omega)] at h3; cases h3
       obtain ⟨hYi,_⟩:=hT hin hoi
       obtain ⟨g1,g2⟩:=hSk i (by omega)
       have hal : Alike l o (S i) st:=by
        refine ⟨ho.trans g1.symm,fun s hs' => ?_⟩
        rw [hlk,g2]
        by_cases hw : ∃ m om,m < n∧l[m]? = some om∧om.dst=some s
        . obtain ⟨m,om,hmn,hom,hmd⟩:=hw
          have only : ∀ (L : Nat->Bool),L m=false->upto l V st0.s n L s=lk s st0.s:=fun L hL => by
           refine upto_out V st0.s _ fun k ok hkn hLk hok hkd => ?_
           by_cases e : k=m
           . subst e; rw [hL] at hLk; cases hLk
           . exact (hC.apart k m ok om hkn hmn e hok hom s hmd).1 hkd
          by_cases e : m=i
          . subst e
            rw [only _ hif,only _ (by simp)]
          . have hcl':=(hC.apart i m o om hin hmn (Ne.symm e) hoi hom s hmd).2 hs'
            split at hcl'
            . rename_i hlt
              rw [upto_in V st0.s _ hC hmn (hdep hcl') hom hmd,upto_in V st0.s _ hC hmn (by simpa using hlt) hom hmd]
            . rename_i hlt
              have hmf : listed.getD m false=false:=by
               cases hh : listed.getD m false with
               | false => rfl
               | true => have:=hcl.dep hcl' hh; rw [hif] at this; cases this
              rw [only _ hmf,only _ (by simp; omega)]
        . rw [upto_out V st0.s _ fun m om hmn _ hom hmd => hw ⟨m,om,hmn,hom,hmd⟩,upto_out V st0.s _ fun m om hmn _ hom hmd => hw ⟨m,om,hmn,hom,hmd⟩]
       have hYst:=Yl_alike hal hYi
       unfold wpOp
       have ho' : (l.toArray)[i]? = some o:=by simpa using hoi
       rw [ho']
       simp only
       have hst:=Yl_spec hs hYst (K':=wpAny P .any l.toArray Q fuel (listed.setIfInBounds i true)) (Q:=Q) fun a' w' hs' => by
        have hlt : i < listed.size:=by omega
        refine ih _ _ a' w' (by simpa using hsz) (hcl.set hsz hi) (fun t ht htl => by rw [set_getD hlt,if_neg (by omega)]; exact htail t ht htl) ?_ (by cases hd : o.dst<;>simp [St.put,ho]) (fun s => ?_) hs'
        . -- the count
          have hmem : i ∈ List.range l.length:=List.mem_range.2 hil
          have e1 : (List.range l.length).countP (fun k => !listed.getD k false)=(List.range l.length).countP (fun k => !(listed.setIfInBounds i true).getD k false) + 1:=by
           have hgen : ∀ (r : List Nat),r.Nodup->i ∈ r->r.countP (fun k => !listed.getD k false)=r.countP (fun k => !(listed.setIfInBounds i true).getD k false) + 1:=by
            intro r
            induction r with
            | nil => intro _ h; cases h
            | cons x r ihr =>
              intro hnd hm
              rw [List.nodup_cons] at hnd
              by_cases hx : i=x
              . subst hx
                have hrest : r.countP (fun k => !listed.getD k false)=r.countP (fun k => !(listed.setIfInBounds i true).getD k false):=by
                 apply List.countP_congr
                 intro k hk
                 rw [set_getD hlt,if_neg (show ¬ k=i from fun e => hnd.1 (by rw [← e]; exact hk))]
                rw [List.countP_cons,List.countP_cons,hrest,hif,set_getD hlt,if_pos rfl]
                simp
              . have hmr : i ∈ r:=by
                 rcases List.mem_cons.1 hm with h | h
                 . exact absurd h hx
                 . exact h
                rw [List.countP_cons,List.countP_cons,ihr hnd.2 hmr,set_getD hlt,if_neg (Ne.symm hx)]
                omega
           exact hgen _ List.nodup_range hmem
          omega
        . rw [lk_put]
          split
          . rename_i hd
            exact (upto_in V st0.s _ hC hin (by rw [set_getD hlt,if_pos rfl]) hoi hd).symm
          . rename_i hd
            rw [hlk]
            by_cases hw : ∃ m om,m < n∧listed.getD m false=true∧l[m]? = some om∧om.dst=some s
            . obtain ⟨m,om,hmn,hml,hom,hmd⟩:=hw
              rw [upto_in V st0.s _ hC hmn hml hom hmd,upto_in V st0.s _ hC hmn (by rw [set_getD hlt]; split; rfl; exact hml) hom hmd]
            . rw [upto_out V st0.s _ fun m om hmn hml hom hmd => hw ⟨m,om,hmn,hml,hom,hmd⟩,upto_out V st0.s _ fun m om hmn hml hom hmd => by
               rw [set_getD hlt] at hml
               split at hml
               . rename_i e; subst e; rw [hoi] at hom; cases hom; exact hd hmd
               . exact hw ⟨m,om,hmn,hml,hom,hmd⟩]
       split
       . rename_i hw; rw [if_pos hw] at hst; exact .inl hst
       . rename_i hw; rw [if_neg hw] at hst; exact hst

theorem wp_drawn {id : Nat} {l : List Oper} {n : Nat} {K : St->Prop} {Q : Exit->Act->World->Prop} {st : St} {a : Act} {w : World} (hm : P.follows .mixedOrders=true) (hc : regionOK l n=true)
 (hQ : ∀ st a w,Sim Z N B M w0 st a w->K st->Q .normal a w) (hs : Sim Z N B M w0 st a w) (hq : headA P N l (l.take n) st fun st' => opsA P N l (l.drop n) st' K) :
 SW P (Code.region id l.toArray true) Q a w:=by
 have hC:=regionOK_spec hc
 obtain ⟨V,S,h1,h2,h3⟩:=headA_values hq
 have hlen : (l.take n).length=n:=by rw [List.length_take]; have:=hC.le; omega
 rw [hlen] at h3
 show wpAny P .any l.toArray Q l.toArray.size (Array.replicate l.toArray.size false) a { w with drawn:=w.drawn + 1 }
 have hfalse : ∀ k,(Array.replicate l.length false).getD k false=false:=fun k => by
  rcases Nat.lt_or_ge k l.length with h | h
  . simp [h]
  . simp [h]
 have:=any_head (P:=P) hC hQ h1 h2 h3 l.length (Array.replicate l.length false) st a { w with drawn:=w.drawn + 1 } (by simp) (fun k o _ hk => by rw [hfalse k] at hk; cases hk)
  (fun t _ _ => hfalse t) (by
   have : (List.range l.length).countP (fun k => !(Array.replicate l.length false).getD k false)=(List.range l.length).length:=by
    rw [List.countP_eq_length]; intro k _; rw [hfalse k]; rfl
   rw [this]; simp) rfl (fun s => (upto_out V st.s _ fun k o _ hk => by rw [hfalse k] at hk; cases hk).symm)
  (by obtain ⟨β,φ,hB⟩:=hs; exact ⟨β,φ,hB.drawn⟩)
 simpa using this
end
end Abs
