/- A region that draws its order: a head in any order, a call, and moves of what it yields in any order. No condition but the region's own check. -/
import Derived.Test.YtiafnejjhnjbfaaDoorAbsAny
set_option linter.all false
namespace Abs
open Go Go.RowKit

def isCallV (o : Oper) : Bool:=match o.op with
 | .call c => (match c.callee with
   | .value _ => true
   | _ => false)
 | _ => false
def isL3 (o : Oper) : Bool:=(match o.op with
 | .move _ => true
 | .extract _ _ => true
 | .assign (.tmp _) => true
 | _ => false) && o.guard.isNone && o.dst.isSome
def callN (l : List Oper) : Nat:=l.findIdx isCallV
def regionOKP (l : List Oper) : Bool :=
 let n:=callN l
 let b:=masks l
 Nat.blt n l.length &&
 (l.zipIdx.all fun (o,i) => o.after.all fun e => !Region.binds .any e || e.on < i) &&
 ((l.take n).zipIdx.all fun (ok,k) => (l.take n).zipIdx.all fun (om,m) => k == m || clash l b k m ok om) &&
 ((List.range l.length).all fun t => if t < n then (b.getD n 0).testBit t else t == n || (b.getD t 0).testBit n) &&
 (l.zipIdx.all fun (ok,k) => !Nat.blt n k || (isL3 ok && l.zipIdx.all fun (om,m) => !Nat.blt n m || k == m || clash l b k m ok om))

structure CheckedP (l : List Oper) (n : Nat) : Prop where
 lt : n < l.length
 back : ∀ i o,l[i]? = some o->∀ e ∈ o.after,Region.binds .any e=true->e.on < i
 apart : ∀ k m ok om,k < n->m < n->k ≠ m->l[k]? = some ok->l[m]? = some om->∀ s,om.dst=some s->ok.dst ≠ some s∧(s ∈ looks l ok->if m < k then Dep l k m else Dep l m k)
 sink : n < l.length->∀ i,i < n->Dep l n i
 late : ∀ t,n < t->t < l.length->Dep l t n
 after : ∀ k m ok om,n < k->n < m->k ≠ m->l[k]? = some ok->l[m]? = some om->∀ s,om.dst=some s->ok.dst ≠ some s∧(s ∈ looks l ok->if m < k then Dep l k m else Dep l m k)
theorem clash_spec {l : List Oper} {k m : Nat} {ok om : Oper} (h : clash l (masks l) k m ok om=true) : ∀ s,om.dst=some s->ok.dst ≠ some s∧(s ∈ looks l ok->if m < k then Dep l k m else Dep l m k):=by
 intro s hs
 unfold clash at h
 rw [hs] at h
 simp only [Bool.and_eq_true,bne_iff_ne,ne_eq,Bool.or_eq_true,Bool.not_eq_true'] at h
 refine ⟨h.1,fun hmem => ?_⟩
 rcases h.2 with h6 | h6
 . have : (looks l ok).contains s=true:=by simpa using hmem
   rw [this] at h6; cases h6
 . split
   . rename_i hlt; rw [if_pos hlt] at h6; exact masks_spec h6
   . rename_i hlt; rw [if_neg hlt] at h6; exact masks_spec h6
theorem regionOKP_spec {l : List Oper} (h : regionOKP l=true) : CheckedP l (callN l):=by
 unfold regionOKP at h
 simp only [Bool.and_eq_true] at h
 obtain ⟨⟨⟨⟨h1,h3⟩,h4⟩,h5⟩,h6⟩:=h
 have zip : ∀ {l' : List Oper} {p : Oper × Nat->Bool},l'.zipIdx.all p=true->∀ i o,l'[i]? = some o->p (o,i)=true:=by
  intro l' p hp i o ho
  rw [List.all_eq_true] at hp
  exact hp _ (List.mem_iff_getElem?.2 ⟨i,by simp [List.getElem?_zipIdx,ho]⟩)
 refine ⟨by simpa using h1,fun i o ho e he hb => ?_,fun k m ok om hk hm hne hok hom => ?_,fun hn i hi => ?_,fun t ht htl => ?_,fun k m ok om hk hm hne hok hom => ?_⟩
 . have:=zip h3 i o ho
   simp only [Array.all_eq_true_iff_forall_mem] at this
   have:=this e he
   simp [hb] at this
   exact this
 . have a1:=zip h4 k ok (by rw [List.getElem?_take,if_pos hk]; exact hok)
   have a2:=zip a1 m om (by rw [List.getElem?_take,if_pos hm]; exact hom)
   simp only [Bool.or_eq_true,beq_iff_eq] at a2
   exact clash_spec (a2.resolve_left hne)
 . rw [List.all_eq_true] at h5
   have:=h5 i (List.mem_range.2 (by omega))
   rw [if_pos hi] at this
   exact masks_spec this
 . rw [List.all_eq_true] at h5
   have:=h5 t (List.mem_range.2 htl)
   rw [if_neg (by omega)] at this
   simp only [Bool.or_eq_true,beq_iff_eq] at this
   exact masks_spec (this.resolve_left (by omega))
 . have a1:=zip h6 k ok hok
   rw [show Nat.blt (callN l) k=true by simpa using hk] at a1
   simp only [Bool.not_true,Bool.false_or,Bool.and_eq_true] at a1
   have a2:=zip a1.2 m om hom
   rw [show Nat.blt (callN l) m=true by simpa using hm] at a2
   simp only [Bool.not_true,Bool.false_or,Bool.or_eq_true,beq_iff_eq] at a2
   exact clash_spec (a2.resolve_left hne)

theorem count_set {listed : Array Bool} {i : Nat} (hlt : i < listed.size) {r : List Nat} (hm : i ∈ r) (hif : listed.getD i false=false) (hnd : r.Nodup) : r.countP (fun k => !listed.getD k false)=r.countP (fun k => !(listed.setIfInBounds i true).getD k false) + 1:=by
 induction r with
 | nil => cases hm
 | cons x r ihr =>
   rw [List.nodup_cons] at hnd
   by_cases hx : i=x
   . subst hx
     have hrest : r.countP (fun k => !listed.getD k false)=r.countP (fun k => !(listed.setIfInBounds i true).getD k false):=by
      apply List.countP_congr
      intro k hk
      rw [set_getD hlt,if_neg (show ¬ k=i from fun e => hnd.1 (by rw [← e]; exact hk))]
     rw [List.countP_cons,List.countP_cons,hrest,hif,set_getD hlt,if_pos rfl]
     simp
   . have hmr : i ∈ r:=by
      rcases List.mem_cons.1 hm with h | h
      . exact absurd h hx
      . exact h
     rw [List.countP_cons,List.countP_cons,ihr hmr hnd.2,set_getD hlt,if_neg (Ne.symm hx)]
     omega
section
variable {P : Program} {Z : Nat->Prop} {N B : Nat} {M : Nat->Prop} {w0 : World}
theorem upto_inP {l : List Oper} {n : Nat} (V : Nat->AV) (s0 : List (Nat × AV)) (L : Nat->Bool) {k o s} (hC : CheckedP l n) (hk : k < n) (hL : L k=true) (ho : l[k]? = some o) (hd : o.dst=some s) : upto l V s0 n L s=some (V k):=by
 unfold upto
 cases hf : (List.range n).find? fun k => L k && (((l[k]?).bind (·.dst)) == some s) with
 | none =>
   rw [List.find?_eq_none] at hf
   have:=hf k (List.mem_range.2 hk)
   simp [hL,ho,hd] at this
 | some m =>
   have h1:=List.find?_some hf
   have h2:=List.mem_range.1 (List.mem_of_find?_eq_some hf)
   simp only [Bool.and_eq_true,beq_iff_eq] at h1
   cases hm : l[m]? with
   | none => rw [hm] at h1; simp at h1
   | some om =>
     rw [hm] at h1
     have hmd : om.dst=some s:=by simpa using h1.2
     by_cases e : k=m
     . subst e; rfl
     . exact absurd hd (hC.apart k m o om hk h2 e ho hm s hmd).1
theorem upto_inL {l : List Oper} {n : Nat} (V : Nat->AV) (s0 : List (Nat × AV)) (L : Nat->Bool) (hLm : ∀ k,L k=true->n < k) {k o s} (hC : CheckedP l n) (hL : L k=true) (ho : l[k]? = some o) (hd : o.dst=some s) : upto l V s0 l.length L s=some (V k):=by
 have hk:=(List.getElem?_eq_some_iff.1 ho).1
 unfold upto
 cases hf : (List.range l.length).find? fun k => L k && (((l[k]?).bind (·.dst)) == some s) with
 | none =>
   rw [List.find?_eq_none] at hf
   have:=hf k (List.mem_range.2 hk)
   simp [hL,ho,hd] at this
 | some m =>
   have h1:=List.find?_some hf
   simp only [Bool.and_eq_true,beq_iff_eq] at h1
   cases hm : l[m]? with
   | none => rw [hm] at h1; simp at h1
   | some om =>
     rw [hm] at h1
     have hmd : om.dst=some s:=by simpa using h1.2
     by_cases e : k=m
     . subst e; rfl
     . exact absurd hd (hC.after k m o om (hLm k hL) (hLm m h1.1) e ho hm s hmd).1
theorem upto_outL {l : List Oper} (V : Nat->AV) (s0 : List (Nat × AV)) (L : Nat->Bool) {s} (h : ∀ k o,L k=true->l[k]? = some o->o.dst ≠ some s) : upto l V s0 l.length L s=lk s s0:=by
 unfold upto
 have : (List.range l.length).find? (fun k => L k && (((l[k]?).bind (·.dst)) == some s))=none:=by
  rw [List.find?_eq_none]
  intro k hk
  simp only [Bool.and_eq_true,beq_iff_eq,not_and]
  intro hL hd
  cases ho : l[k]? with
  | none => rw [ho] at hd; simp at hd
  | some o => rw [ho] at hd; exact h k o hL ho (by simpa using hd)
 rw [this]
theorem any_last {l : List Oper} {n : Nat} (hC : CheckedP l n) {K : St->Prop} {Q : Exit->Act->World->Prop} (hQ : ∀ st a w,Sim Z N B M w0 st a w->K st->Q .normal a w)
 {st0 : St} {V : Nat->AV} {S : Nat->St} (hS0 : S (n + 1)=st0) (hY : ∀ k o,n < k->l[k]? = some o->Yl P N l (S k) o (V k)∧S (k + 1)=(S k).put o.dst (V k)) (hK : K (S l.length)) :
 ∀ (fuel : Nat) (listed : Array Bool) (st : St) (a : Act) (w : World),listed.size=l.length->Closed l listed->(∀ t,t<=n->listed.getD t false=true) ->
  fuel=(List.range l.length).countP (fun k => !listed.getD k false)->st.o=st0.o->(∀ s,lk s st.s=upto l V st0.s l.length (fun k => decide (n < k) && listed.getD k false) s) ->
  Sim Z N B M w0 st a w->wpAny P .any l.toArray Q fuel listed a w:=by
 have hlm : ∀ (listed : Array Bool) k,(decide (n < k) && listed.getD k false)=true->n < k:=fun _ k h => by simp at h; exact h.1
 have hln : ∀ (j : Nat) k,(decide (n < k) && decide (k < j))=true->n < k:=fun _ k h => by simp at h; exact h.1
 -- the text's own states
 have hSk : ∀ k,n < k->k<=l.length->(S k).o=st0.o∧∀ s,lk s (S k).s=upto l V st0.s l.length (fun m => decide (n < m) && decide (m < k)) s:=by
  intro k
  induction k with
  | zero => intro h; omega
  | succ k ih =>
    intro hnk hk
    by_cases hkn : k=n
    . subst hkn
      rw [hS0]
      exact ⟨rfl,fun s => (upto_outL V st0.s _ (by intro m o hm; simp at hm; omega)).symm⟩
    obtain ⟨h1,h2⟩:=ih (by omega) (by omega)
    have hkl : k < l.length:=by omega
    obtain ⟨o,ho⟩ : ∃ o,l[k]? = some o:=⟨l[k],by simp [hkl]⟩
    obtain ⟨_,h3⟩:=hY k o (by omega) ho
    rw [h3]
    refine ⟨by cases hd : o.dst<;>simp [St.put,h1],fun s => ?_⟩
    rw [lk_put]
    split
    . rename_i hd
      exact (upto_inL V st0.s _ (hln _) hC (by simp; omega) ho hd).symm
    . rename_i hd
      rw [h2]
      by_cases hw : ∃ m om,n < m∧m < k∧l[m]? = some om∧om.dst=some s
      . obtain ⟨m,om,hmn,hmk,hom,hmd⟩:=hw
        rw [upto_inL V st0.s _ (hln _) hC (by simp; omega) hom hmd,upto_inL V st0.s _ (hln _) hC (by simp; omega) hom hmd]
      . rw [upto_outL V st0.s _ fun m om hml hom hmd => hw ⟨m,om,by simp at hml; omega,by simp at hml; omega,hom,hmd⟩,
         upto_outL V st0.s _ fun m om hml hom hmd => by
          have hmk : n < m∧m < k + 1:=by simpa using hml
          by_cases e : m=k
          . subst e; rw [ho] at hom; cases hom; exact hd hmd
          . exact hw ⟨m,om,hmk.1,by omega,hom,hmd⟩]
 intro fuel
 induction fuel with
 | zero =>
   intro listed st a w hsz hcl hhead hcnt ho hlk hs
   have hall : ∀ k,k < l.length->listed.getD k false=true:=fun k hk => by
    have:=List.countP_eq_zero.1 hcnt.symm k (List.mem_range.2 hk)
    simpa using this
   refine ⟨?_,hQ (S l.length) a w ?_ hK⟩
   . cases hr : Region.ready .any l.toArray listed with
     | nil => rfl
     | cons x xs =>
       have hx : x ∈ Region.ready .any l.toArray listed:=by rw [hr]; simp
       obtain ⟨h1,o,ho',_⟩:=ready_iff.1 hx
       have hxl:=(List.getElem?_eq_some_iff.1 ho').1
       have : listed.getD x true=listed.getD x false:=by simp [show x < listed.size by omega]
       rw [this,hall x hxl] at h1; cases h1
   . obtain ⟨β,φ,hB⟩:=hs
     obtain ⟨h1,h2⟩:=hSk l.length hC.lt (Nat.le_refl _)
     have:=hB.sub (s':=(S l.length).s) fun i av hi => .inr (by
      rw [hlk]
      rw [h2] at hi
      rw [← hi]
      by_cases hw : ∃ m om,n < m∧l[m]? = some om∧om.dst=some i
      . obtain ⟨m,om,hmn,hom,hmd⟩:=hw
        have hml:=(List.getElem?_eq_some_iff.1 hom).1
        rw [upto_inL V st0.s _ (hlm _) hC (by rw [hall m hml]; simpa using hmn) hom hmd,upto_inL V st0.s _ (hln _) hC (by simp; omega) hom hmd]
      . rw [upto_outL V st0.s _ fun m om hml hom hmd => hw ⟨m,om,hlm _ _ hml,hom,hmd⟩,upto_outL V st0.s _ fun m om hml hom hmd => hw ⟨m,om,hln _ _ hml,hom,hmd⟩])
     refine ⟨β,φ,?_⟩
     have e : S l.length={ st with s:=(S l.length).s }:=by cases hSn : S l.length; rw [hSn] at h1; simp only at h1 ⊢; rw [h1,← ho]
     rw [e]; exact this
 | succ fuel ih =>
   intro listed st a w hsz hcl hhead hcnt ho hlk hs
   refine ⟨fun h0 => ?_,fun i hi => ?_⟩
   . exfalso
     have hex : ∃ k,k < l.length∧listed.getD k false=false∧∀ m,m < k->listed.getD m false=true:=by
      have h1 : ∃ k,k < l.length∧listed.getD k false=false:=by
       refine Classical.byContradiction fun hno => ?_
       have : (List.range l.length).countP (fun k => !listed.getD k false)=0:=by
        rw [List.countP_eq_zero]
        intro k hk
        cases hh : listed.getD k false with
        | true => simp
        | false => exact absurd ⟨k,List.mem_range.1 hk,hh⟩ hno
       omega
      obtain ⟨k,hk⟩:=h1
      induction k using Nat.strongRecOn with
      | _ k ihk =>
        by_cases h2 : ∃ m,m < k∧listed.getD m false=false
        . obtain ⟨m,hm,hm2⟩:=h2
          exact ihk m hm ⟨by omega,hm2⟩
        . refine ⟨k,hk.1,hk.2,fun m hm => ?_⟩
          cases hh : listed.getD m false with
          | true => rfl
          | false => exact absurd ⟨m,hm,hh⟩ h2
     obtain ⟨k,hkl,hkf,hkm⟩:=hex
     have : k ∈ Region.ready .any l.toArray listed:=by
      rw [ready_iff]
      refine ⟨?_,l[k],by simp [hkl],fun e he hb => hkm _ (hC.back k l[k] (by simp [hkl]) e he hb)⟩
      have : listed.getD k true=listed.getD k false:=by simp [show k < listed.size by omega]
      rw [this]; exact hkf
     rw [h0] at this; cases this
   . obtain ⟨h1,o,hoi,h2⟩:=ready_iff.1 hi
     have hil:=(List.getElem?_eq_some_iff.1 hoi).1
     have hif : listed.getD i false=false:=by
      have : listed.getD i true=listed.getD i false:=by simp [show i < listed.size by omega]
      rw [← this]; exact h1
     have hdep : ∀ {m},Dep l i m->listed.getD m false=true:=fun hd => hcl.ready hd fun o' ho' => by rw [hoi] at ho'; cases ho'; exact h2
     have hin : n < i:=by
      rcases Nat.lt_or_ge n i with h | h
      . exact h
      . rw [hhead i h] at hif; cases hif
     obtain ⟨hYi,_⟩:=hY i o hin hoi
     obtain ⟨g1,g2⟩:=hSk i hin (by omega)
     have hal : Alike l o (S i) st:=by
      refine ⟨ho.trans g1.symm,fun s hs' => ?_⟩
      rw [hlk,g2]
      by_cases hw : ∃ m om,n < m∧l[m]? = some om∧om.dst=some s
      . obtain ⟨m,om,hmn,hom,hmd⟩:=hw
        have only : ∀ (L : Nat->Bool),(∀ k,L k=true->n < k)->L m=false->upto l V st0.s l.length L s=lk s st0.s:=fun L hLn hL => by
         refine upto_outL V st0.s _ fun k ok hLk hok hkd => ?_
         by_cases e : k=m
         . subst e; rw [hL] at hLk; cases hLk
         . exact (hC.after k m ok om (hLn k hLk) hmn e hok hom s hmd).1 hkd
        by_cases e : m=i
        . subst e
          rw [only _ (hlm _) (by simp [hif]),only _ (hln _) (by simp)]
        . have hcl':=(hC.after i m o om hin hmn (Ne.symm e) hoi hom s hmd).2 hs'
          split at hcl'
          . rename_i hlt
            rw [upto_inL V st0.s _ (hlm _) hC (by rw [hdep hcl']; simpa using hmn) hom hmd,upto_inL V st0.s _ (hln _) hC (by simp; omega) hom hmd]
          . rename_i hlt
            have hmf : listed.getD m false=false:=by
             cases hh : listed.getD m false with
             | false => rfl
             | true => have:=hcl.dep hcl' hh; rw [hif] at this; cases this
            rw [only _ (hlm _) (by simp [hmf]),only _ (hln _) (by simp; omega)]
      . rw [upto_outL V st0.s _ fun m om hml hom hmd => hw ⟨m,om,hlm _ _ hml,hom,hmd⟩,upto_outL V st0.s _ fun m om hml hom hmd => hw ⟨m,om,hln _ _ hml,hom,hmd⟩]
     have hYst:=Yl_alike hal hYi
     unfold wpOp
     have ho' : (l.toArray)[i]? = some o:=by simpa using hoi
     rw [ho']
     simp only
     have hst:=Yl_spec hs hYst (K':=wpAny P .any l.toArray Q fuel (listed.setIfInBounds i true)) (Q:=Q) fun a' w' hs' => by
      have hlt : i < listed.size:=by omega
      refine ih _ _ a' w' (by simpa using hsz) (hcl.set hsz hi) (fun t ht => by rw [set_getD hlt]; split; rfl; exact hhead t ht) ?_ (by cases hd : o.dst<;>simp [St.put,ho]) (fun s => ?_) hs'
      . have hc1:=count_set hlt (show i ∈ List.range l.length from List.mem_range.2 hil) hif List.nodup_range
        omega
      . rw [lk_put]
        split
        . rename_i hd
          exact (upto_inL V st0.s _ (hlm _) hC (by rw [set_getD hlt,if_pos rfl]; simpa using hin) hoi hd).symm
        . rename_i hd
          rw [hlk]
          by_cases hw : ∃ m om,n < m∧listed.getD m false=true∧l[m]? = some om∧om.dst=some s
          . obtain ⟨m,om,hmn,hml,hom,hmd⟩:=hw
            rw [upto_inL V st0.s _ (hlm _) hC (by rw [hml]; simpa using hmn) hom hmd,upto_inL V st0.s _ (hlm _) hC (by rw [set_getD hlt]; split<;>simp [hml,hmn]) hom hmd]
          . rw [upto_outL V st0.s _ fun m om hml hom hmd => hw ⟨m,om,hlm _ _ hml,by simp at hml; simp [hml.2],hom,hmd⟩,upto_outL V st0.s _ fun m om hml hom hmd => by
             have hmn:=hlm _ _ hml
             simp only [Bool.and_eq_true] at hml
             have hml:=hml.2
             rw [set_getD hlt] at hml
             split at hml
             . rename_i e; subst e; rw [hoi] at hom; cases hom; exact hd hmd
             . exact hw ⟨m,om,hmn,hml,hom,hmd⟩]
     split
     . rename_i hw; rw [if_pos hw] at hst; exact .inl hst
     . rename_i hw; rw [if_neg hw] at hst; exact hst

theorem any_headP {l : List Oper} {n : Nat} (hC : CheckedP l n) {Q : Exit->Act->World->Prop}
 {st0 : St} {V : Nat->AV} {S : Nat->St} (hS0 : S 0=st0) (hY : ∀ k o,(l.take n)[k]? = some o->Yl P N l (S k) o (V k)∧S (k + 1)=(S k).put o.dst (V k))
 (hT3 : ∀ (fuel : Nat) (listed : Array Bool) (a : Act) (w : World),listed.size=l.length->(∀ k,k < l.length->listed.getD k false=decide (k < n))->fuel=(List.range l.length).countP (fun k => !listed.getD k false)->Sim Z N B M w0 (S n) a w->wpAny P .any l.toArray Q fuel listed a w) :
 ∀ (fuel : Nat) (listed : Array Bool) (st : St) (a : Act) (w : World),listed.size=l.length->Closed l listed->(∀ t,n<=t->t < l.length->listed.getD t false=false) ->
  fuel=(List.range l.length).countP (fun k => !listed.getD k false)->st.o=st0.o->(∀ s,lk s st.s=upto l V st0.s n (fun k => listed.getD k false) s) ->
  Sim Z N B M w0 st a w->wpAny P .any l.toArray Q fuel listed a w:=by
 have hT : ∀ {k o},k < n->l[k]? = some o->Yl P N l (S k) o (V k)∧S (k + 1)=(S k).put o.dst (V k):=fun hk ho => hY _ _ (by rw [List.getElem?_take,if_pos hk]; exact ho)
 -- the text's own states
 have hSk : ∀ k,k<=n->(S k).o=st0.o∧∀ s,lk s (S k).s=upto l V st0.s n (fun m => decide (m < k)) s:=by
  intro k
  induction k with
  | zero => intro _; rw [hS0]; exact ⟨rfl,fun s => (upto_out V st0.s _ (by simp)).symm⟩
  | succ k ih =>
    intro hk
    obtain ⟨h1,h2⟩:=ih (by omega)
    have hkl : k < l.length:=by have:=(Nat.le_of_lt hC.lt); omega
    obtain ⟨o,ho⟩ : ∃ o,l[k]? = some o:=⟨l[k],by simp [hkl]⟩
    obtain ⟨_,h3⟩:=hT (by omega) ho
    rw [h3]
    refine ⟨by cases hd : o.dst<;>simp [St.put,h1],fun s => ?_⟩
    rw [lk_put]
    split
    . rename_i hd
      exact (upto_inP V st0.s _ hC (by omega) (by simp) ho hd).symm
    . rename_i hd
      rw [h2]
      by_cases hw : ∃ m om,m < n∧m < k∧l[m]? = some om∧om.dst=some s
      . obtain ⟨m,om,hmn,hmk,hom,hmd⟩:=hw
        rw [upto_inP V st0.s _ hC hmn (by simpa using hmk) hom hmd,upto_inP V st0.s _ hC hmn (by simp; omega) hom hmd]
      . rw [upto_out V st0.s _ fun m om hmn hml hom hmd => hw ⟨m,om,hmn,by simpa using hml,hom,hmd⟩,
         upto_out V st0.s _ fun m om hmn hml hom hmd => by
          have hmk : m < k + 1:=by simpa using hml
          by_cases e : m=k
          . subst e; rw [ho] at hom; cases hom; exact hd hmd
          . exact hw ⟨m,om,hmn,by omega,hom,hmd⟩]
 intro fuel
 induction fuel with
 | zero =>
   intro listed st a w hsz hcl htail hcnt ho hlk hs
   -- all is listed
   have hall : ∀ k,k < l.length->listed.getD k false=true:=fun k hk => by
    have:=List.countP_eq_zero.1 hcnt.symm k (List.mem_range.2 hk)
    simpa using this
   exfalso
   have h1:=htail n (Nat.le_refl _) hC.lt
   rw [hall n hC.lt] at h1; cases h1
 | succ fuel ih =>
   intro listed st a w hsz hcl htail hcnt ho hlk hs
   by_cases hallh : ∀ k,k < n->listed.getD k false=true
   . -- the tail
     have hl : ∀ k,k < l.length->listed.getD k false=decide (k < n):=fun k hk => by
      by_cases h : k < n
      . rw [hallh k h]; simp [h]
      . rw [htail k (by omega) hk]; simp [h]
     refine hT3 _ _ _ _ hsz hl hcnt ?_
     obtain ⟨β,φ,hB⟩:=hs
     obtain ⟨h1,h2⟩:=hSk n (Nat.le_refl _)
     have:=hB.sub (s':=(S n).s) fun i av hi => .inr (by
      rw [hlk]
      rw [h2] at hi
      rw [← hi]
      by_cases hw : ∃ m om,m < n∧l[m]? = some om∧om.dst=some i
      . obtain ⟨m,om,hmn,hom,hmd⟩:=hw
        rw [upto_inP V st0.s _ hC hmn (hallh m hmn) hom hmd,upto_inP V st0.s _ hC hmn (by simpa using hmn) hom hmd]
      . rw [upto_out V st0.s _ fun m om hmn _ hom hmd => hw ⟨m,om,hmn,hom,hmd⟩,upto_out V st0.s _ fun m om hmn _ hom hmd => hw ⟨m,om,hmn,hom,hmd⟩])
     refine ⟨β,φ,?_⟩
     have e : S n={ st with s:=(S n).s }:=by cases hSn : S n; rw [hSn] at h1; simp only at h1 ⊢; rw [h1,← ho]
     rw [e]; exact this
   . -- one of the head
     refine ⟨fun h0 => ?_,fun i hi => ?_⟩
     . -- something is ready
       exfalso
       have hex : ∃ k,k < l.length∧listed.getD k false=false∧∀ m,m < k->listed.getD m false=true:=by
        have h1 : ∃ k,k < l.length∧listed.getD k false=false:=by
         refine Classical.byContradiction fun hno => hallh fun k hk => ?_
         cases hh : listed.getD k false with
         | true => rfl
         | false => exact absurd ⟨k,by have:=(Nat.le_of_lt hC.lt); omega,hh⟩ hno
        obtain ⟨k,hk⟩:=h1
        induction k using Nat.strongRecOn with
        | _ k ihk =>
          by_cases h2 : ∃ m,m < k∧listed.getD m false=false
          . obtain ⟨m,hm,hm2⟩:=h2
            exact ihk m hm ⟨by omega,hm2⟩
          . refine ⟨k,hk.1,hk.2,fun m hm => ?_⟩
            cases hh : listed.getD m false with
            | true => rfl
            | false => exact absurd ⟨m,hm,hh⟩ h2
       obtain ⟨k,hkl,hkf,hkm⟩:=hex
       have : k ∈ Region.ready .any l.toArray listed:=by
        rw [ready_iff]
        refine ⟨?_,l[k],by simp [hkl],fun e he hb => hkm _ (hC.back k l[k] (by simp [hkl]) e he hb)⟩
        have : listed.getD k true=listed.getD k false:=by simp [show k < listed.size by omega]
        rw [this]; exact hkf
       rw [h0] at this; cases this
     . obtain ⟨h1,o,hoi,h2⟩:=ready_iff.1 hi
       have hil:=(List.getElem?_eq_some_iff.1 hoi).1
       have hif : listed.getD i false=false:=by
        have : listed.getD i true=listed.getD i false:=by simp [show i < listed.size by omega]
        rw [← this]; exact h1
       have hdep : ∀ {m},Dep l i m->listed.getD m false=true:=fun hd => hcl.ready hd fun o' ho' => by rw [hoi] at ho'; cases ho'; exact h2
       have hin : i < n:=by
        rcases Nat.lt_or_ge i n with h | h
        . exact h
        . exfalso
          by_cases e : i=n
          . subst e
            exact hallh fun k hk => hdep (hC.sink hil k hk)
          . have h3:=hdep (hC.late i (by omega) hil)
            rw [htail n (Nat.le_refl _) hC.lt] at h3; cases h3
       obtain ⟨hYi,_⟩:=hT hin hoi
       obtain ⟨g1,g2⟩:=hSk i (by omega)
       have hal : Alike l o (S i) st:=by
        refine ⟨ho.trans g1.symm,fun s hs' => ?_⟩
        rw [hlk,g2]
        by_cases hw : ∃ m om,m < n∧l[m]? = some om∧om.dst=some s
        . obtain ⟨m,om,hmn,hom,hmd⟩:=hw
          have only : ∀ (L : Nat->Bool),L m=false->upto l V st0.s n L s=lk s st0.s:=fun L hL => by
           refine upto_out V st0.s _ fun k ok hkn hLk hok hkd => ?_
           by_cases e : k=m
           . subst e; rw [hL] at hLk; cases hLk
           . exact (hC.apart k m ok om hkn hmn e hok hom s hmd).1 hkd
          by_cases e : m=i
          . subst e
            rw [only _ hif,only _ (by simp)]
          . have hcl':=(hC.apart i m o om hin hmn (Ne.symm e) hoi hom s hmd).2 hs'
            split at hcl'
            . rename_i hlt
              rw [upto_inP V st0.s _ hC hmn (hdep hcl') hom hmd,upto_inP V st0.s _ hC hmn (by simpa using hlt) hom hmd]
            . rename_i hlt
              have hmf : listed.getD m false=false:=by
               cases hh : listed.getD m false with
               | false => rfl
               | true => have:=hcl.dep hcl' hh; rw [hif] at this; cases this
              rw [only _ hmf,only _ (by simp; omega)]
        . rw [upto_out V st0.s _ fun m om hmn _ hom hmd => hw ⟨m,om,hmn,hom,hmd⟩,upto_out V st0.s _ fun m om hmn _ hom hmd => hw ⟨m,om,hmn,hom,hmd⟩]
       have hYst:=Yl_alike hal hYi
       unfold wpOp
       have ho' : (l.toArray)[i]? = some o:=by simpa using hoi
       rw [ho']
       simp only
       have hst:=Yl_spec hs hYst (K':=wpAny P .any l.toArray Q fuel (listed.setIfInBounds i true)) (Q:=Q) fun a' w' hs' => by
        have hlt : i < listed.size:=by omega
        refine ih _ _ a' w' (by simpa using hsz) (hcl.set hsz hi) (fun t ht htl => by rw [set_getD hlt,if_neg (by omega)]; exact htail t ht htl) ?_ (by cases hd : o.dst<;>simp [St.put,ho]) (fun s => ?_) hs'
        . -- the count
          have hmem : i ∈ List.range l.length:=List.mem_range.2 hil
          have e1 : (List.range l.length).countP (fun k => !listed.getD k false)=(List.range l.length).countP (fun k => !(listed.setIfInBounds i true).getD k false) + 1:=by
           have hgen : ∀ (r : List Nat),r.Nodup->i ∈ r->r.countP (fun k => !listed.getD k false)=r.countP (fun k => !(listed.setIfInBounds i true).getD k false) + 1:=by
            intro r
            induction r with
            | nil => intro _ h; cases h
            | cons x r ihr =>
              intro hnd hm
              rw [List.nodup_cons] at hnd
              by_cases hx : i=x
              . subst hx
                have hrest : r.countP (fun k => !listed.getD k false)=r.countP (fun k => !(listed.setIfInBounds i true).getD k false):=by
                 apply List.countP_congr
                 intro k hk
                 rw [set_getD hlt,if_neg (show ¬ k=i from fun e => hnd.1 (by rw [← e]; exact hk))]
                rw [List.countP_cons,List.countP_cons,hrest,hif,set_getD hlt,if_pos rfl]
                simp
              . have hmr : i ∈ r:=by
                 rcases List.mem_cons.1 hm with h | h
                 . exact absurd h hx
                 . exact h
                rw [List.countP_cons,List.countP_cons,ihr hnd.2 hmr,set_getD hlt,if_neg (Ne.symm hx)]
                omega
           exact hgen _ List.nodup_range hmem
          omega
        . rw [lk_put]
          split
          . rename_i hd
            exact (upto_inP V st0.s _ hC hin (by rw [set_getD hlt,if_pos rfl]) hoi hd).symm
          . rename_i hd
            rw [hlk]
            by_cases hw : ∃ m om,m < n∧listed.getD m false=true∧l[m]? = some om∧om.dst=some s
            . obtain ⟨m,om,hmn,hml,hom,hmd⟩:=hw
              rw [upto_inP V st0.s _ hC hmn hml hom hmd,upto_inP V st0.s _ hC hmn (by rw [set_getD hlt]; split; rfl; exact hml) hom hmd]
            . rw [upto_out V st0.s _ fun m om hmn hml hom hmd => hw ⟨m,om,hmn,hml,hom,hmd⟩,upto_out V st0.s _ fun m om hmn hml hom hmd => by
               rw [set_getD hlt] at hml
               split at hml
               . rename_i e; subst e; rw [hoi] at hom; cases hom; exact hd hmd
               . exact hw ⟨m,om,hmn,hml,hom,hmd⟩]
       split
       . rename_i hw; rw [if_pos hw] at hst; exact .inl hst
       . rename_i hw; rw [if_neg hw] at hst; exact hst

theorem wp_drawnP {id : Nat} {l : List Oper} {K : St->Prop} {Q : Exit->Act->World->Prop} {st : St} {a : Act} {w : World} (hm : P.follows .mixedOrders=true) (hc : regionOKP l=true)
 (hQ : ∀ st a w,Sim Z N B M w0 st a w->K st->Q .normal a w) (hs : Sim Z N B M w0 st a w)
 (hq : headA P N l (l.take (callN l)) st fun st' => opsA P N l ((l.drop (callN l)).take 1) st' fun st'' => headA P N l (l.drop (callN l + 1)) st'' K) :
 SW P (Code.region id l.toArray true) Q a w:=by
 have hC:=regionOKP_spec hc
 generalize callN l=n at *
 obtain ⟨V,S,h1,h2,h3⟩:=headA_values hq
 have hlen : (l.take n).length=n:=by rw [List.length_take]; have:=hC.lt; omega
 rw [hlen] at h3
 obtain ⟨o,ho⟩ : ∃ o,l[n]? = some o:=⟨l[n]'hC.lt,by simp [hC.lt]⟩
 have hd1 : (l.drop n).take 1=[o]:=by
  obtain ⟨hn,e⟩:=List.getElem?_eq_some_iff.1 ho
  rw [List.drop_eq_getElem_cons hn,e]; rfl
 rw [hd1] at h3
 show wpAny P .any l.toArray Q l.toArray.size (Array.replicate l.toArray.size false) a { w with drawn:=w.drawn + 1 }
 have hfalse : ∀ k,(Array.replicate l.length false).getD k false=false:=fun k => by
  rcases Nat.lt_or_ge k l.length with h | h
  . simp [h]
  . simp [h]
 have hT3 : ∀ (fuel : Nat) (listed : Array Bool) (a : Act) (w : World),listed.size=l.length->(∀ k,k < l.length->listed.getD k false=decide (k < n))->fuel=(List.range l.length).countP (fun k => !listed.getD k false)->Sim Z N B M w0 (S n) a w->wpAny P .any l.toArray Q fuel listed a w:=by
  intro fuel listed a w hsz hl hcnt hs
  have hgd : ∀ x,x < l.length->listed.getD x true=decide (x < n):=fun x hx => by
   have : listed.getD x true=listed.getD x false:=by simp [show x < listed.size by omega]
   rw [this]; exact hl x hx
  have hcl : Closed l listed:=fun k ok hk hkl e he hb => by
   have hkl':=(List.getElem?_eq_some_iff.1 hk).1
   rw [hl k hkl'] at hkl
   have:=hC.back k ok hk e he hb
   rw [hl e.on (by omega)]
   simp at hkl ⊢; omega
  have hn:=hC.lt
  have hnf : listed.getD n false=false:=by rw [hl n hn]; simp
  have hready : ∀ i,i ∈ Region.ready .any l.toArray listed↔i=n:=fun i => by
   constructor
   . intro hi
     obtain ⟨h1,oi,hoi,h2⟩:=ready_iff.1 hi
     have hil:=(List.getElem?_eq_some_iff.1 hoi).1
     rw [hgd i hil] at h1
     have hit : n<=i:=by simpa using h1
     rcases Nat.lt_or_ge n i with hlt | hge
     . exfalso
       have:=hcl.ready (hC.late i hlt hil) (fun o' ho' => by rw [hoi] at ho'; cases ho'; exact h2)
       rw [hnf] at this; cases this
     . omega
   . rintro rfl
     refine ready_iff.2 ⟨by rw [hgd i hn]; simp,o,ho,fun e he hb => ?_⟩
     have:=hC.back i o ho e he hb
     rw [hl e.on (by omega)]; simpa using this
  have hmem : n ∈ List.range l.length:=List.mem_range.2 hn
  have hc1:=count_set (listed:=listed) (by omega) hmem hnf List.nodup_range
  cases fuel with
  | zero => omega
  | succ fuel =>
    refine ⟨fun h0 => ?_,fun i hi => ?_⟩
    . have:=(hready n).2 rfl
      rw [h0] at this; cases this
    . have hin:=(hready i).1 hi
      subst hin
      have hclS:=hcl.set hsz hi
      unfold wpOp
      have ho' : (l.toArray)[i]? = some o:=by simpa using ho
      rw [ho']
      simp only
      have hst:=stepA_spec hs h3 (K':=wpAny P .any l.toArray Q fuel (listed.setIfInBounds i true)) (Q:=Q) fun st' a' w' hs' hk => by
       obtain ⟨V2,S2,g1,g2,g3⟩:=headA_values hk
       have hlen2 : (l.drop (i + 1)).length=l.length - (i + 1):=by simp
       rw [hlen2] at g3
       refine any_last (P:=P) hC hQ (st0:=st') (V:=fun k => V2 (k - (i + 1))) (S:=fun k => S2 (k - (i + 1))) (by show S2 (i + 1 - (i + 1))=st'; rw [Nat.sub_self]; exact g1) (fun k ok hk' hok => ?_) g3
        fuel _ st' a' w' (by simpa using hsz) hclS (fun t ht => ?_) (by omega) rfl (fun s => ?_) hs'
       . have:=g2 (k - (i + 1)) ok (by rw [List.getElem?_drop,show i + 1 + (k - (i + 1))=k by omega]; exact hok)
         rw [show k + 1 - (i + 1)=k - (i + 1) + 1 by omega]
         exact this
       . rw [set_getD (by omega)]
         split
         . rfl
         . rw [hl t (by omega)]; simp; omega
       . refine (upto_outL _ st'.s _ fun k ok hL hok => ?_).symm
         exfalso
         simp only [Bool.and_eq_true,decide_eq_true_eq] at hL
         have hkl:=(List.getElem?_eq_some_iff.1 hok).1
         have h9:=hL.2
         rw [set_getD (by omega),if_neg (by omega),hl k hkl] at h9
         simp at h9; omega
      split
      . rename_i hw; rw [if_pos hw] at hst; exact .inl hst
      . rename_i hw; rw [if_neg hw] at hst; exact hst
 have:=any_headP (P:=P) hC h1 h2 hT3 l.length (Array.replicate l.length false) st a { w with drawn:=w.drawn + 1 } (by simp) (fun k o _ hk => by rw [hfalse k] at hk; cases hk)
  (fun t _ _ => hfalse t) (by
   have : (List.range l.length).countP (fun k => !(Array.replicate l.length false).getD k false)=(List.range l.length).length:=by
    rw [List.countP_eq_length]; intro k _; rw [hfalse k]; rfl
   rw [this]; simp) rfl (fun s => (upto_out V st.s _ fun k o _ hk => by rw [hfalse k] at hk; cases hk).symm)
  (by obtain ⟨β,φ,hB⟩:=hs; exact ⟨β,φ,hB.drawn⟩)
 simpa using this
end
end Abs
