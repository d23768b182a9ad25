/- What functions of this program compute, over plain data. No condition. -/
import Derived.Test.YtiafnejjhnjbfaaDoorAbsAny7
import Derived.Test.YtiafnejjhnjbfaaDoorAbsReg7
set_option linter.all false
namespace Abs
open Go Go.RowKit
def ok8 (cls : List Bool) (l : List Oper) : Bool :=
 let b:=masks l
 (l.zipIdx.all fun (o,k) => bif cls.getD k false then o.dst.isSome else isT7 o && o.guard.isNone) &&
 (l.zipIdx.all fun (o,i) => o.after.all fun e => !Region.binds .any e || e.on < i) &&
 (l.zipIdx.all fun (ok,k) => l.zipIdx.all fun (om,m) => (k == m || match om.dst with | some s => ok.dst != some s | none => true) &&
  (match om.dst with | some s => !(looks l ok).contains s || ((b.getD k 0).testBit m && (!cls.getD k false || cls.getD m false)) || (!cls.getD m false && Nat.blt k m && (b.getD m 0).testBit k) | none => true))
structure Checked8 (cls : List Bool) (l : List Oper) : Prop where
 hd : ∀ (k : Nat) (o : Oper),l[k]? = some o->cls.getD k false=true->∃ d,o.dst=some d
 tl : ∀ (k : Nat) (o : Oper),l[k]? = some o->cls.getD k false=false->isT7 o=true∧o.guard=none
 back : ∀ (i : Nat) (o : Oper),l[i]? = some o->∀ e ∈ o.after,Region.binds .any e=true->e.on < i
 apart : ∀ (k m : Nat) (ok om : Oper) (s : Nat),l[k]? = some ok->l[m]? = some om->k ≠ m->om.dst=some s->ok.dst ≠ some s
 looked : ∀ (k m : Nat) (ok om : Oper) (s : Nat),l[k]? = some ok->l[m]? = some om->om.dst=some s->s ∈ looks l ok->(Dep l k m∧(cls.getD k false=true->cls.getD m false=true))∨(cls.getD m false=false∧k < m)
section
variable {P : Program} {Z : Nat->Prop} {β : Nat->Value} {φ : Nat->Nat->Prop} {N B : Nat} {M : Nat->Prop} {w0 : World} {st : St} {a : Act} {w : World}
def minim (l : List Oper) (R : List (Oper × Nat)) (p : Oper × Nat) : Bool:=R.all fun q => !((masks l).getD p.2 0).testBit q.2
def tail8 (P : Program) (N : Nat) (l : List Oper) (hs : List (Oper × Nat)) : Nat->List (Oper × Nat)->St->(St->Prop)->Prop
 | _,[],S,K => K S
 | 0,_ :: _,_,_ => False
 | n + 1,p :: r,S,K => ∀ q ∈ p :: r,minim l (p :: r) q=true->stepA P N l S q.1 fun S' => headA P N l (floats l q.2 hs) S' (fun S'' => sameAt S' S'' (floats l q.2 hs))∧tail8 P N l hs n ((p :: r).filter fun x => x.2 != q.2) S' K
end
end Abs

namespace Abs
open Go Go.RowKit
def del8 (j : Nat) : List (Oper × Nat)->List (Oper × Nat)
 | [] => []
 | p :: r => bif Nat.beq p.2 j then del8 j r else p :: del8 j r
@[go_sem] theorem del8_nil (j) : del8 j []=[]:=rfl
def A8 (l : List Oper) (R : List (Oper × Nat)) (f : Oper × Nat->Prop) : List (Oper × Nat)->Prop
 | [] => True
 | p :: r => (minim l R p=true->f p)∧A8 l R f r
@[go_sem] theorem A8_nil (l R f) : A8 l R f []=True:=rfl
def T8 (P : Program) (N : Nat) (l : List Oper) (hs : List (Oper × Nat)) : List Oper->List (Oper × Nat)->(St->Prop)->St->Prop
 | _,[],K,S => K S
 | [],_ :: _,_,_ => False
 | _ :: fs,p :: r,K,S => A8 l (p :: r) (fun q => OpsW P N l [q.1] S fun S' => F7 P N l q.2 S' [] hs∧T8 P N l hs fs (del8 q.2 (p :: r)) K S') (p :: r)
@[go_sem] theorem T8_nil (P N l hs fs K S) : T8 P N l hs fs [] K S=K S:=by cases fs<;>rfl
@[go_sem] theorem T8_cons (P N l hs f fs o k r K S) : T8 P N l hs (f :: fs) ((o,k) :: r) K S=A8 l ((o,k) :: r) (fun q => OpsW P N l [q.1] S fun S' => F7 P N l q.2 S' [] hs∧T8 P N l hs fs (del8 q.2 ((o,k) :: r)) K S') ((o,k) :: r):=rfl
def kH8 (P : Program) (N : Nat) (l : List Oper) (hs ts : List (Oper × Nat)) (K : St->Prop) (S : St) : Prop:=T8 P N l hs l ts K S
@[go_sem] theorem kH8_eq (P N l hs ts K S) : kH8 P N l hs ts K S=T8 P N l hs l ts K S:=rfl
def Z8c (P : Program) (N : Nat) (l : List Oper) (K : St->Prop) (st : St) : List (Oper × Nat)->List (Oper × Nat)->Nat->List Bool->List Oper->Prop
 | hs,ts,_,_,[] => HeadW P N l (fst7 hs) st (kH8 P N l hs ts K)
 | hs,ts,k,true :: cs,o :: r => Z8c P N l K st (hs++[(o,k)]) ts (k + 1) cs r
 | hs,ts,k,false :: cs,o :: r => Z8c P N l K st hs (ts++[(o,k)]) (k + 1) cs r
 | _,_,_,[],_ :: _ => False
@[go_sem] theorem Z8c_nil (P N l K st hs ts k cs) : Z8c P N l K st hs ts k cs []=HeadW P N l (fst7 hs) st (kH8 P N l hs ts K):=by cases cs<;>rfl
@[go_sem] theorem Z8c_in (P N l K st hs ts k cs o r) : Z8c P N l K st hs ts k (true :: cs) (o :: r)=Z8c P N l K st (hs++[(o,k)]) ts (k + 1) cs r:=rfl
@[go_sem] theorem Z8c_out (P N l K st hs ts k cs o r) : Z8c P N l K st hs ts k (false :: cs) (o :: r)=Z8c P N l K st hs (ts++[(o,k)]) (k + 1) cs r:=rfl
end Abs

namespace Abs
open Go Go.RowKit
section
variable {P : Program} {Z : Nat->Prop} {N B : Nat} {M : Nat->Prop} {w0 : World}
theorem tail_frame9 {l : List Oper} {o : Oper} {st st' : St} {K : St->Prop} (ht : isT7 o=true) (hs : ∀ s ∈ looks l o,lk s st'.s=lk s st.s) (ho : st'.o=st.o)
 (hq : stepA P N l st o K) : stepA P N l st' o fun q' => ∃ q,K q∧Frm7 o.dst st st' q q':=by
 cases hg : o.guard with
 | none => exact tail_frame7 ht hg hs ho hq
 | some p =>
   obtain ⟨j,want⟩:=p
   have hrun : opA P N st o K->opA P N st' o fun q' => ∃ q,K q∧Frm7 o.dst st st' q q':=fun h => by
    obtain ⟨dst,op,ty,pos,after,guard⟩:=o
    have h1:=tail_frame7 (P:=P) (N:=N) (l:=l) (o:=⟨dst,op,ty,pos,after,none⟩) (st:=st) (st':=st') (K:=K) ht rfl
     (fun s hs' => hs s (by simp only [looks,Oper.looksAt,List.append_nil] at hs' ⊢; exact List.mem_append_left _ hs')) ho h
    exact h1
   unfold stepA guardA at hq ⊢
   rw [hg] at hq ⊢
   simp only at hq ⊢
   cases hd : (l[j]?).bind (·.dst) with
   | none => rw [hd] at hq; exact hq
   | some d =>
     rw [hd] at hq
     simp only at hq ⊢
     have hlk : lk d st'.s=lk d st.s:=hs d (by
      simp only [looks,Oper.looksAt,hg]
      refine List.mem_append_right _ ?_
      have : ((l.toArray)[j]?).bind (·.dst)=some d:=by simpa using hd
      rw [this]; simp)
     have hskip : dstB N o.dst∧K (st.put o.dst skipV)->dstB N o.dst∧∃ q,K q∧Frm7 o.dst st st' q (st'.put o.dst skipV):=fun ⟨h1,h2⟩ => ⟨h1,_,h2,by
      cases o.dst with
      | none => exact (Pt.refl ho).none
      | some d => exact (Pt.refl ho).put d _⟩
     rw [hlk]
     split at hq
     . exact ⟨fun e => hrun (hq.1 e),fun e => hskip (hq.2 e)⟩
     . exact hskip hq
     . exact hq.elim

def ok9 (cls : List Bool) (l : List Oper) : Bool :=
 let b:=masks l
 (l.zipIdx.all fun (o,k) => bif cls.getD k false then o.dst.isSome else isT7 o) &&
 (l.zipIdx.all fun (o,i) => o.after.all fun e => !Region.binds .any e || e.on < i) &&
 (l.zipIdx.all fun (ok,k) => l.zipIdx.all fun (om,m) => (k == m || match om.dst with | some s => ok.dst != some s | none => true) &&
  (match om.dst with | some s => !(looks l ok).contains s || (b.getD k 0).testBit m || (!cls.getD m false && Nat.blt k m && (b.getD m 0).testBit k) | none => true) &&
  (cls.getD k false || cls.getD m false || !Nat.blt m k || (b.getD k 0).testBit m))
structure Checked9 (cls : List Bool) (l : List Oper) : Prop where
 hd : ∀ (k : Nat) (o : Oper),l[k]? = some o->cls.getD k false=true->∃ d,o.dst=some d
 tl : ∀ (k : Nat) (o : Oper),l[k]? = some o->cls.getD k false=false->isT7 o=true
 back : ∀ (i : Nat) (o : Oper),l[i]? = some o->∀ e ∈ o.after,Region.binds .any e=true->e.on < i
 apart : ∀ (k m : Nat) (ok om : Oper) (s : Nat),l[k]? = some ok->l[m]? = some om->k ≠ m->om.dst=some s->ok.dst ≠ some s
 looked : ∀ (k m : Nat) (ok om : Oper) (s : Nat),l[k]? = some ok->l[m]? = some om->om.dst=some s->s ∈ looks l ok->Dep l k m∨(cls.getD m false=false∧k < m)
 chain : ∀ (k m : Nat) (ok om : Oper),l[k]? = some ok->l[m]? = some om->cls.getD k false=false->cls.getD m false=false->m < k->Dep l k m
theorem ok9_spec {cls : List Bool} {l : List Oper} (h : ok9 cls l=true) : Checked9 cls l:=by
 unfold ok9 at h
 simp only [Bool.and_eq_true] at h
 obtain ⟨⟨h1,h2⟩,h3⟩:=h
 have zip : ∀ {p : Oper × Nat->Bool},l.zipIdx.all p=true->∀ i o,l[i]? = some o->p (o,i)=true:=by
  intro p hp i o ho
  rw [List.all_eq_true] at hp
  exact hp _ (List.mem_iff_getElem?.2 ⟨i,by simp [List.getElem?_zipIdx,ho]⟩)
 have h3' : ∀ k m ok om,l[k]? = some ok->l[m]? = some om->_:=fun k m ok om hk hm => zip (zip h3 k ok hk) m om hm
 refine ⟨fun k o hk hc => ?_,fun k o hk hc => ?_,fun i o ho e he hb => ?_,fun k m ok om s hk hm hne hs hd => ?_,fun k m ok om s hk hm hs hl => ?_,fun k m ok om hk hm t1 t2 hlt => ?_⟩
 . have:=zip h1 k o hk
   rw [hc] at this
   exact Option.isSome_iff_exists.1 this
 . have:=zip h1 k o hk
   rw [hc] at this
   simpa only [cond_false] using this
 . have:=zip h2 i o ho
   simp only [Array.all_eq_true_iff_forall_mem] at this
   have:=this e he
   simp [hb] at this
   exact this
 . have:=h3' k m ok om hk hm
   simp only [hs,Bool.and_eq_true,Bool.or_eq_true,beq_iff_eq,bne_iff_ne,ne_eq] at this
   exact this.1.1.resolve_left hne hd
 . have:=h3' k m ok om hk hm
   simp only [hs,Bool.and_eq_true] at this
   have h4:=this.1.2
   have h5 : (looks l ok).contains s=true:=by simpa using hl
   rw [h5] at h4
   simp only [Bool.not_true,Bool.false_or,Bool.or_eq_true,Bool.and_eq_true] at h4
   rcases h4 with h4 | h4
   . exact .inl (masks_spec h4)
   . exact .inr ⟨by simpa using h4.1.1,by simpa using h4.1.2⟩
 . have:=h3' k m ok om hk hm
   simp only [Bool.and_eq_true] at this
   have h4:=this.2
   rw [t1,t2,show Nat.blt m k=true by simpa using hlt] at h4
   exact masks_spec (by simpa using h4)

theorem alive_of9 {cls : List Bool} {l : List Oper} (hX : Checked9 cls l) {S : St} {r : List Oper} (hr : r.Sublist ((hs7 cls l).map (·.1))) {K : St->Prop} (h : headA P N l r S K) :
 ∃ Sn,K Sn∧Sn.o=S.o∧(∀ s,(∀ o ∈ r,o.dst ≠ some s)->lk s Sn.s=lk s S.s)∧∀ o ∈ r,Alive P N l Sn o:=by
 have hback : ∀ {k m},Dep l k m->m < k:=by
  intro k m h
  induction h with
  | direct h he hb hm => subst hm; exact hX.back _ _ h _ he hb
  | trans _ _ h1 h2 => omega
 have hpw : (l.zipIdx).Pairwise fun p p' => cls.getD p'.2 false=true->p.1.dst ≠ .none->p'.1.dst ≠ .none->p.1.dst ≠ p'.1.dst∧∀ s ∈ looks l p.1,p'.1.dst ≠ some s:=by
  rw [List.pairwise_iff_getElem]
  intro i j hi hj hij
  simp only [List.getElem_zipIdx,Nat.zero_add]
  have hli : i < l.length:=by simpa using hi
  have hlj : j < l.length:=by simpa using hj
  intro h0 h1 h2
  have hgi : l[i]? = some l[i]:=by simp [hli]
  have hgj : l[j]? = some l[j]:=by simp [hlj]
  refine ⟨fun e => ?_,fun s hs' hd => ?_⟩
  . obtain ⟨d,hd⟩:=Option.ne_none_iff_exists'.1 h2
    exact hX.apart i j _ _ d hgi hgj (by omega) hd (e.trans hd)
  . rcases hX.looked i j _ _ s hgi hgj hd hs' with h | h
    . have:=hback h; omega
    . have h1:=h.1; rw [h0] at h1; cases h1
 have hpw2 : (hs7 cls l).Pairwise fun p p' => p.1.dst ≠ p'.1.dst∧∀ s ∈ looks l p.1,p'.1.dst ≠ some s:=by
  refine List.Pairwise.imp_of_mem (fun {p p'} hp hp' h => ?_) (hpw.sublist List.filter_sublist)
  have a1:=List.mem_filter.1 hp
  have a2:=List.mem_filter.1 hp'
  obtain ⟨d1,e1⟩:=hX.hd _ _ (zip_sub (cls:=cls) p a1.1) a1.2
  obtain ⟨d2,e2⟩:=hX.hd _ _ (zip_sub (cls:=cls) p' a2.1) a2.2
  exact h a2.2 (by rw [e1]; simp) (by rw [e2]; simp)
 have hmem : ∀ o ∈ r,∃ k,l[k]? = some o∧cls.getD k false=true:=fun o ho => by
  obtain ⟨p,hp,e⟩:=List.mem_map.1 (hr.subset ho)
  have a1:=List.mem_filter.1 hp
  exact ⟨p.2,by rw [← e]; exact zip_sub (cls:=cls) p a1.1,a1.2⟩
 obtain ⟨stn,h3,h4,h5,h6⟩:=headA_final h (List.Pairwise.sublist hr (by
  rw [List.pairwise_map]; exact hpw2)) fun o ho s hs' hd => by
  obtain ⟨k,hk,_⟩:=hmem o ho
  rcases hX.looked k k _ _ s hk hk hd hs' with h | h
  . have:=hback h; omega
  . have:=h.2; omega
 exact ⟨stn,h3,h4,h5,fun o ho => h6 o ho⟩
def avail9 (l : List Oper) (R hs : List (Oper × Nat)) : List (Oper × Nat):=hs.filter fun p => R.all fun q => !((masks l).getD p.2 0).testBit q.2
def next9 (l : List Oper) (j : Nat) (r hs : List (Oper × Nat)) : List (Oper × Nat):=hs.filter fun p => !((masks l).getD j 0).testBit p.2 && r.all fun q => !((masks l).getD p.2 0).testBit q.2
def olds9 (l : List Oper) (j : Nat) (r hs : List (Oper × Nat)) : List (Oper × Nat):=hs.filter fun p => (!((masks l).getD j 0).testBit p.2 && r.all fun q => !((masks l).getD p.2 0).testBit q.2) && !((masks l).getD p.2 0).testBit j
def tail9 (P : Program) (N : Nat) (l : List Oper) (hs : List (Oper × Nat)) : List (Oper × Nat)->St->(St->Prop)->Prop
 | [],S,K => K S
 | (o,j) :: r,S,K => stepA P N l S o fun S' => headA P N l ((next9 l j r hs).map (·.1)) S' fun S'' => sameAt S' S'' ((olds9 l j r hs).map (·.1))∧tail9 P N l hs r S'' K
theorem any9 {cls : List Bool} {l : List Oper} (hC : Checked9 cls l) {K : St->Prop} {Q : Exit->Act->World->Prop} (hQ : ∀ st a w,Sim Z N B M w0 st a w->K st->Q .normal a w) :
 ∀ (fuel : Nat) (listed : Array Bool) (st Sp : St) (a : Act) (w : World),listed.size=l.length->Closed l listed->fuel=(List.range l.length).countP (fun k => !listed.getD k false) ->
  tail9 P N l (hs7 cls l) (restI7 cls l listed) Sp K->st.o=Sp.o ->
  (∀ s,(∀ (k : Nat) (o : Oper),l[k]? = some o->cls.getD k false=true->listed.getD k false=false->o.dst ≠ some s)->lk s st.s=lk s Sp.s) ->
  (∀ (k : Nat) (o : Oper),l[k]? = some o->cls.getD k false=true->listed.getD k false=false->(∀ q ∈ restI7 cls l listed,((masks l).getD k 0).testBit q.2=false)->Alive P N l Sp o) ->
  Sim Z N B M w0 st a w->wpAny P .any l.toArray Q fuel listed a w:=by
 intro fuel
 induction fuel with
 | zero =>
   intro listed st Sp a w hsz hcl hcnt hK ho hlk hal hs
   have hall : ∀ k,k < l.length->listed.getD k false=true:=fun k hk => by
    have:=List.countP_eq_zero.1 hcnt.symm k (List.mem_range.2 hk)
    simpa using this
   refine ⟨?_,?_⟩
   . cases hr : Region.ready .any l.toArray listed with
     | nil => rfl
     | cons x xs =>
       have hx : x ∈ Region.ready .any l.toArray listed:=by rw [hr]; simp
       obtain ⟨h1,o,hoo,_⟩:=ready_iff.1 hx
       have hxl:=(List.getElem?_eq_some_iff.1 hoo).1
       have : listed.getD x true=listed.getD x false:=by simp [show x < listed.size by omega]
       rw [this,hall x hxl] at h1
       cases h1
   . have hr : restI7 cls l listed=[]:=by
      unfold restI7
      rw [List.filter_eq_nil_iff]
      intro p hp
      have h1:=zip_sub (cls:=cls) p (List.mem_filter.1 hp).1
      rw [hall p.2 (List.getElem?_eq_some_iff.1 h1).1]; simp
     rw [hr] at hK
     refine hQ Sp a w ?_ hK
     exact hs.congr2 (fun s => (hlk s fun k o hk _ hf => by rw [hall k (List.getElem?_eq_some_iff.1 hk).1] at hf; cases hf).symm) fun j => by rw [ho]
 | succ fuel ih =>
   intro listed st Sp a w hsz hcl hcnt hK ho hlk hal hs
   refine ⟨fun h0 => ?_,fun i hi => ?_⟩
   . exfalso
     have h1 : ∃ k,k < l.length∧listed.getD k false=false:=by
      refine Classical.byContradiction fun hno => ?_
      have : (List.range l.length).countP (fun k => !listed.getD k false)=0:=by
       rw [List.countP_eq_zero]; intro k hk
       cases hh : listed.getD k false with
       | true => simp
       | false => exact absurd ⟨k,List.mem_range.1 hk,hh⟩ hno
      omega
     have hex : ∃ k,k < l.length∧listed.getD k false=false∧∀ m,m < k->listed.getD m false=true:=by
      obtain ⟨k,hk⟩:=h1
      induction k using Nat.strongRecOn with
      | _ k ihk =>
        by_cases h2 : ∃ m,m < k∧listed.getD m false=false
        . obtain ⟨m,hm,hm2⟩:=h2
          exact ihk m hm ⟨by omega,hm2⟩
        . refine ⟨k,hk.1,hk.2,fun m hm => ?_⟩
          cases hh : listed.getD m false with
          | true => rfl
          | false => exact absurd ⟨m,hm,hh⟩ h2
     obtain ⟨k,hkl,hkf,hkm⟩:=hex
     have : k ∈ Region.ready .any l.toArray listed:=by
      rw [ready_iff]
      refine ⟨?_,l[k],by simp [hkl],fun e he hb => hkm _ (hC.back k l[k] (by simp [hkl]) e he hb)⟩
      have : listed.getD k true=listed.getD k false:=by simp [show k < listed.size by omega]
      rw [this]; exact hkf
     rw [h0] at this; cases this
   . obtain ⟨h1,o,hoi,h2⟩:=ready_iff.1 hi
     have hil:=(List.getElem?_eq_some_iff.1 hoi).1
     have hlt : i < listed.size:=by omega
     have hif : listed.getD i false=false:=by
      have : listed.getD i true=listed.getD i false:=by simp [hlt]
      rw [← this]; exact h1
     have hdep : ∀ {m},Dep l i m->listed.getD m false=true:=fun hd => hcl.ready hd fun o' ho' => by rw [hoi] at ho'; cases ho'; exact h2
     have hlooked : ∀ s ∈ looks l o,lk s st.s=lk s Sp.s:=fun s hs' => hlk s fun k ok hk hhk hkf hkd => by
      rcases hC.looked i k o ok s hoi hk hkd hs' with h | h
      . have:=hdep h; rw [hkf] at this; cases this
      . have:=h.1; rw [hhk] at this; cases this
     have hcount : fuel=(List.range l.length).countP (fun k => !(listed.setIfInBounds i true).getD k false):=by
      have hmem : i ∈ List.range l.length:=List.mem_range.2 hil
      have hgen : ∀ (r : List Nat),r.Nodup->i ∈ r->r.countP (fun k => !listed.getD k false)=r.countP (fun k => !(listed.setIfInBounds i true).getD k false) + 1:=by
       intro r
       induction r with
       | nil => intro _ h; cases h
       | cons x r ihr =>
         intro hnd hm
         rw [List.nodup_cons] at hnd
         by_cases hx : i=x
         . subst hx
           have hrest : r.countP (fun k => !listed.getD k false)=r.countP (fun k => !(listed.setIfInBounds i true).getD k false):=by
            apply List.countP_congr
            intro k hk
            rw [set_getD hlt,if_neg (show ¬ k=i from fun e => hnd.1 (by rw [← e]; exact hk))]
           rw [List.countP_cons,List.countP_cons,hrest,hif,set_getD hlt,if_pos rfl]
           simp
         . have hmr : i ∈ r:=by
            rcases List.mem_cons.1 hm with h | h
            . exact absurd h hx
            . exact h
           rw [List.countP_cons,List.countP_cons,ihr hnd.2 hmr,set_getD hlt,if_neg (Ne.symm hx)]
           omega
      have:=hgen _ List.nodup_range hmem
      omega
     unfold wpOp
     have ho' : (l.toArray)[i]? = some o:=by simpa using hoi
     rw [ho']
     simp only
     have hset : ∀ {k : Nat},(listed.setIfInBounds i true).getD k false=false->listed.getD k false=false∧k ≠ i:=fun {k} h => by
      rw [set_getD hlt] at h
      split at h
      . cases h
      . rename_i e; exact ⟨h,e⟩
     cases hci : cls.getD i false with
     | false =>
       have hT:=hC.tl i o hoi hci
       have hzi : (o,i) ∈ l.zipIdx:=List.mem_iff_getElem?.2 ⟨i,by simp [List.getElem?_zipIdx,hoi]⟩
       have hrest : restI7 cls l listed=(o,i) :: restI7 cls l (listed.setIfInBounds i true):=by
        unfold restI7 ts7
        rw [List.filter_filter,List.filter_filter]
        obtain ⟨l1,l2,hl12⟩ : ∃ l1 l2,l.zipIdx=l1++(o,i) :: l2∧l1.length=i:=by
         refine ⟨l.zipIdx.take i,l.zipIdx.drop (i + 1),?_,by rw [List.length_take,List.length_zipIdx]; omega⟩
         have : (o,i) :: l.zipIdx.drop (i + 1)=l.zipIdx.drop i:=by
          rw [List.drop_eq_getElem_cons (show i < l.zipIdx.length by simpa using hil)]
          congr 1
          have hh : l[i]=o:=by rw [List.getElem?_eq_getElem hil] at hoi; exact Option.some.inj hoi
          simp [List.getElem_zipIdx,hh]
         rw [this,List.take_append_drop]
        have hnd : ∀ p ∈ l1,p.2 < i:=fun p hp => by
         obtain ⟨n,hn⟩:=List.mem_iff_getElem?.1 hp
         have hn2:=(List.getElem?_eq_some_iff.1 hn).1
         have : (l.zipIdx)[n]? = some p:=by rw [hl12.1,List.getElem?_append_left hn2]; exact hn
         rw [List.getElem?_zipIdx] at this
         obtain ⟨x,_,e⟩:=Option.map_eq_some_iff.1 this
         rw [← e]; simp; omega
        have hnd2 : ∀ p ∈ l2,p.2 ≠ i:=fun p hp => by
         obtain ⟨n,hn⟩:=List.mem_iff_getElem?.1 hp
         have : (l.zipIdx)[i + 1 + n]? = some p:=by
          rw [hl12.1,List.getElem?_append_right (by omega),hl12.2,show i + 1 + n - i=n + 1 by omega,List.getElem?_cons_succ]; exact hn
         rw [List.getElem?_zipIdx] at this
         obtain ⟨x,_,e⟩:=Option.map_eq_some_iff.1 this
         rw [← e]; simp
         omega
        have hearly : ∀ p ∈ l1,(!listed.getD p.2 false && !cls.getD p.2 false)=false:=fun p hp => by
         cases hpc : cls.getD p.2 false with
         | true => simp
         | false =>
           have h5:=zip_sub (cls:=cls) p (by rw [hl12.1]; exact List.mem_append_left _ hp)
           rw [hdep (hC.chain i p.2 o p.1 hoi h5 hci hpc (hnd p hp))]; rfl
        rw [hl12.1,List.filter_append,List.filter_append]
        have e1 : ∀ (L : Array Bool),(∀ p ∈ l1,(!L.getD p.2 false && !cls.getD p.2 false)=false)->l1.filter (fun p => !L.getD p.2 false && !cls.getD p.2 false)=[]:=fun L h => by
         rw [List.filter_eq_nil_iff]; intro p hp; rw [h p hp]; simp
        rw [e1 listed hearly,e1 (listed.setIfInBounds i true) fun p hp => by rw [set_getD hlt,if_neg (by have:=hnd p hp; omega)]; exact hearly p hp]
        rw [List.filter_cons_of_pos (by simp only [hif,hci]; rfl),List.filter_cons_of_neg (by rw [set_getD hlt,if_pos rfl]; simp)]
        simp only [List.nil_append,List.cons.injEq,true_and]
        apply List.filter_congr
        intro p hp
        rw [set_getD hlt,if_neg (hnd2 p hp)]
       rw [hrest] at hK
       have hst:=stepA_spec hs (tail_frame9 (st':=st) hT hlooked ho hK) (K':=wpAny P .any l.toArray Q fuel (listed.setIfInBounds i true)) (Q:=Q) fun q' a' w' hs' ⟨q,hq,hF⟩ => by
        obtain ⟨Sn,⟨g1,hk⟩,g2,g3,g4⟩:=alive_of9 hC (r:=(next9 l i (restI7 cls l (listed.setIfInBounds i true)) (hs7 cls l)).map (·.1)) (List.Sublist.map _ List.filter_sublist) hq
        refine ih _ q' Sn a' w' (by simpa using hsz) (hcl.set hsz hi) hcount hk (hF.1.trans g2.symm) (fun s hs2 => ?_) (fun k ok hkk hhk hkf hav => ?_) hs'
        . have e1 : lk s q'.s=lk s q.s:=hF.2 s (by
           by_cases hds : o.dst=some s
           . exact .inr hds
           . refine .inl (hlk s fun k ok hkk hhk hkf => hs2 k ok hkk hhk ?_)
             rw [set_getD hlt,if_neg]
             . exact hkf
             . rintro rfl; rw [hci] at hhk; cases hhk)
          refine e1.trans ?_
          by_cases hw : ∃ o' ∈ (next9 l i (restI7 cls l (listed.setIfInBounds i true)) (hs7 cls l)).map (·.1),o'.dst=some s
          . obtain ⟨o',h5,h6⟩:=hw
            refine (sameAt_mem g1 o' ?_ s h6).symm
            obtain ⟨p,hp,e⟩:=List.mem_map.1 h5
            obtain ⟨hp1,hp2⟩:=List.mem_filter.1 hp
            refine List.mem_map.2 ⟨p,List.mem_filter.2 ⟨hp1,?_⟩,e⟩
            have hpc:=(List.mem_filter.1 hp1).2
            have hpl:=zip_sub (cls:=cls) p (List.mem_filter.1 hp1).1
            have hlisted : listed.getD p.2 false=true:=by
             cases hh : listed.getD p.2 false with
             | true => rfl
             | false =>
               refine absurd (e ▸ h6) (hs2 p.2 p.1 hpl hpc ?_)
               rw [set_getD hlt,if_neg]
               . exact hh
               . intro e2; rw [e2,hci] at hpc; cases hpc
            have hnb : ((masks l).getD p.2 0).testBit i=false:=by
             cases hb : ((masks l).getD p.2 0).testBit i with
             | false => rfl
             | true => rw [hcl.dep (masks_spec hb) hlisted] at hif; cases hif
            simp only [hp2,hnb]; rfl
          . exact (g3 s fun o' h5 h6 => hw ⟨o',h5,h6⟩).symm
        . obtain ⟨hkf',hki⟩:=hset hkf
          have hnm : ((masks l).getD i 0).testBit k=false:=by
           cases hb : ((masks l).getD i 0).testBit k with
           | false => rfl
           | true => rw [hdep (masks_spec hb)] at hkf'; cases hkf'
          refine g4 ok (List.mem_map.2 ⟨(ok,k),List.mem_filter.2 ⟨List.mem_filter.2 ⟨List.mem_iff_getElem?.2 ⟨k,by simp [List.getElem?_zipIdx,hkk]⟩,hhk⟩,?_⟩,rfl⟩)
          simp only [hnm,Bool.not_false,Bool.true_and,List.all_eq_true]
          intro q' hq'
          rw [hav q' hq']; rfl
       split
       . rename_i hw; rw [if_pos hw] at hst; exact .inl hst
       . rename_i hw; rw [if_neg hw] at hst; exact hst
     | true =>
       obtain ⟨d,hd⟩:=hC.hd i o hoi hci
       obtain ⟨x,hY,hx⟩:=hal i o hoi hci hif fun q hq => by
        cases hb : ((masks l).getD i 0).testBit q.2 with
        | false => rfl
        | true =>
          have h3:=hdep (masks_spec hb)
          have h4:=(List.mem_filter.1 hq).2
          rw [h3] at h4; cases h4
       have hYst : Yl P N l st o x:=Yl_alike ⟨ho,hlooked⟩ hY
       have hst:=Yl_spec hs hYst (K':=wpAny P .any l.toArray Q fuel (listed.setIfInBounds i true)) (Q:=Q) fun a' w' hs' => by
        have hR : restI7 cls l (listed.setIfInBounds i true)=restI7 cls l listed:=by
         unfold restI7
         apply List.filter_congr
         intro p hp
         have:=(List.mem_filter.1 hp).2
         rw [set_getD hlt,if_neg]
         rintro e
         rw [e,hci] at this; cases this
        refine ih _ _ Sp a' w' (by simpa using hsz) (hcl.set hsz hi) hcount (by rw [hR]; exact hK) (by rw [hd]; exact ho) (fun s hs2 => ?_) (fun k ok hkk hhk hkf hav => hal k ok hkk hhk (hset hkf).1 (by rw [hR] at hav; exact hav)) hs'
        . rw [lk_put]
          split
          . rename_i hds
            exact (hx s hds).symm
          . rename_i hds
            refine hlk s fun k ok hk hhk hkf => ?_
            by_cases e : k=i
            . subst e; rw [hoi] at hk; cases hk; exact hds
            . exact hs2 k ok hk hhk (by rw [set_getD hlt,if_neg e]; exact hkf)
       split
       . rename_i hw; rw [if_pos hw] at hst; exact .inl hst
       . rename_i hw; rw [if_neg hw] at hst; exact hst

theorem wp_drawn9 {id : Nat} {cls : List Bool} {l : List Oper} {K : St->Prop} {Q : Exit->Act->World->Prop} {st : St} {a : Act} {w : World} (hm : P.follows .mixedOrders=true) (hc : ok9 cls l=true)
 (hQ : ∀ st a w,Sim Z N B M w0 st a w->K st->Q .normal a w) (hs : Sim Z N B M w0 st a w)
 (hq : headA P N l ((avail9 l (ts7 cls l) (hs7 cls l)).map (·.1)) st fun st' => tail9 P N l (hs7 cls l) (ts7 cls l) st' K) :
 SW P (Code.region id l.toArray true) Q a w:=by
 have hC:=ok9_spec hc
 obtain ⟨Sn,hK,ho,hlk,hY⟩:=alive_of9 hC (r:=(avail9 l (ts7 cls l) (hs7 cls l)).map (·.1)) (List.Sublist.map _ List.filter_sublist) hq
 show wpAny P .any l.toArray Q l.toArray.size (Array.replicate l.toArray.size false) a { w with drawn:=w.drawn + 1 }
 have hfalse : ∀ k,(Array.replicate l.length false).getD k false=false:=fun k => by
  rcases Nat.lt_or_ge k l.length with h | h
  . simp [h]
  . simp [h]
 have hR : restI7 cls l (Array.replicate l.length false)=ts7 cls l:=by
  unfold restI7
  rw [List.filter_eq_self]; intro p _; rw [hfalse]; rfl
 have hmem : ∀ k o,l[k]? = some o->cls.getD k false=true->(∀ q ∈ ts7 cls l,((masks l).getD k 0).testBit q.2=false)->o ∈ (avail9 l (ts7 cls l) (hs7 cls l)).map (·.1):=fun k o hk hk2 hav => List.mem_map.2 ⟨(o,k),List.mem_filter.2 ⟨List.mem_filter.2 ⟨List.mem_iff_getElem?.2 ⟨k,by simp [List.getElem?_zipIdx,hk]⟩,hk2⟩,by
  rw [List.all_eq_true]; intro q hq; rw [hav q hq]; rfl⟩,rfl⟩
 have:=any9 (P:=P) hC hQ l.length (Array.replicate l.length false) st Sn a { w with drawn:=w.drawn + 1 } (by simp) (fun k o _ hk => by rw [hfalse k] at hk; cases hk)
  (by
   have : (List.range l.length).countP (fun k => !(Array.replicate l.length false).getD k false)=(List.range l.length).length:=by
    rw [List.countP_eq_length]; intro k _; rw [hfalse k]; rfl
   rw [this]; simp)
  (by
   have : restI7 cls l (Array.replicate l.length false)=ts7 cls l:=by
    unfold restI7
    rw [List.filter_eq_self]; intro p _; rw [hfalse]; rfl
   rw [this]; exact hK) ho.symm (fun s hs' => (hlk s fun o ho' hd => by
    obtain ⟨p,hp,e⟩:=List.mem_map.1 ho'
    have a1:=List.mem_filter.1 (List.mem_filter.1 hp).1
    exact hs' p.2 o (by rw [← e]; exact zip_sub (cls:=cls) p a1.1) a1.2 (hfalse _) hd).symm)
  (fun k o hk hk2 _ hav => hY o (hmem k o hk hk2 (by rw [hR] at hav; exact hav)))
  (by obtain ⟨β,φ,hB⟩:=hs; exact ⟨β,φ,hB.drawn⟩)
 simpa using this
end
end Abs
