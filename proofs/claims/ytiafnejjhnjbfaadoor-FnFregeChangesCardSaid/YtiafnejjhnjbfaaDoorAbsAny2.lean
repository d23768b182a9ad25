/- A region that draws its order, in which calls and appends follow each other and moves and cuts of data may come at any time. No condition but the region's own check. -/
import Derived.Test.YtiafnejjhnjbfaaDoorAbsAny
set_option linter.all false
namespace Abs
open Go Go.RowKit

def isT (o : Oper) : Bool :=
 match o.op with
 | .call c => match c.callee with
   | .value _ => true
   | .builtin .append => true
   | _ => false
 | .assign (.tmp _) => true
 | _ => false
def isH (o : Oper) : Bool :=
 match o.op with
 | .move _ => true
 | .slice _ _ _ _ none => true
 | .buildSlice .. => true
 | .load .. => true
 | .fieldAddr .. => true
 | .indexAddr .. => true
 | .binOp .. => true
 | _ => false
def isDD (x : Option AV) : Prop :=
 match x with
 | some (.d _) => True
 | _ => False
theorem isDD_spec {x : Option AV} (h : isDD x) : ∃ y,x=some (.d y):=by
 unfold isDD at h
 split at h
 . exact ⟨_,rfl⟩
 . exact h.elim
def insD (st : St) (o : Oper) : Prop :=
 match o.op with
 | .load _ (.tmp s) => isDD (lk s st.s)
 | .load _ _ => False
 | .fieldAddr _ (.tmp s) _ => isDD (lk s st.s)
 | .fieldAddr _ _ _ => False
 | .indexAddr _ (.tmp s) _ => isDD (lk s st.s)
 | .indexAddr _ _ _ => False
 | _ => True
def regionOK2 (l : List Oper) : Bool :=
 let b:=masks l
 (l.all fun o => (isT o || isH o) && o.guard.isNone && o.dst.isSome) &&
 (l.zipIdx.all fun (o,i) => o.after.all fun e => !Region.binds .any e || e.on < i) &&
 (l.zipIdx.all fun (ok,k) => l.zipIdx.all fun (om,m) => (k == m || ok.dst != om.dst) && (match om.dst with | some s => !(looks l ok).contains s || ((b.getD k 0).testBit m && (!isH ok || isH om)) | none => true) &&
  (!(isT ok && isT om && Nat.blt m k) || (b.getD k 0).testBit m))

structure Checked2 (l : List Oper) : Prop where
 kind : ∀ (k : Nat) (o : Oper),l[k]? = some o->(isT o=true∨isH o=true)∧o.guard=none∧∃ d,o.dst=some d
 back : ∀ (i : Nat) (o : Oper),l[i]? = some o->∀ e ∈ o.after,Region.binds .any e=true->e.on < i
 apart : ∀ (k m : Nat) (ok om : Oper),l[k]? = some ok->l[m]? = some om->k ≠ m->ok.dst ≠ om.dst
 looked : ∀ (k m : Nat) (ok om : Oper) (s : Nat),l[k]? = some ok->l[m]? = some om->om.dst=some s->s ∈ looks l ok->Dep l k m∧(isH ok=true->isH om=true)
 chain : ∀ (k m : Nat) (ok om : Oper),l[k]? = some ok->l[m]? = some om->isT ok=true->isT om=true->m < k->Dep l k m

theorem regionOK2_spec {l : List Oper} (h : regionOK2 l=true) : Checked2 l:=by
 unfold regionOK2 at h
 simp only [Bool.and_eq_true] at h
 obtain ⟨⟨h1,h2⟩,h3⟩:=h
 have zip : ∀ {p : Oper × Nat->Bool},l.zipIdx.all p=true->∀ i o,l[i]? = some o->p (o,i)=true:=by
  intro p hp i o ho
  rw [List.all_eq_true] at hp
  exact hp _ (List.mem_iff_getElem?.2 ⟨i,by simp [List.getElem?_zipIdx,ho]⟩)
 have h3' : ∀ k m ok om,l[k]? = some ok->l[m]? = some om->_:=fun k m ok om hk hm => zip (zip h3 k ok hk) m om hm
 refine ⟨fun k o hk => ?_,fun i o ho e he hb => ?_,fun k m ok om hk hm hne => ?_,fun k m ok om s hk hm hs hl => ?_,fun k m ok om hk hm t1 t2 hlt => ?_⟩
 . rw [List.all_eq_true] at h1
   have:=h1 o (List.mem_of_getElem? hk)
   simp only [Bool.and_eq_true,Bool.or_eq_true,Option.isNone_iff_eq_none] at this
   exact ⟨this.1.1,this.1.2,Option.isSome_iff_exists.1 this.2⟩
 . have:=zip h2 i o ho
   simp only [Array.all_eq_true_iff_forall_mem] at this
   have:=this e he
   simp [hb] at this
   exact this
 . have:=h3' k m ok om hk hm
   simp only [Bool.and_eq_true,Bool.or_eq_true,beq_iff_eq,bne_iff_ne,ne_eq] at this
   exact this.1.1.resolve_left hne
 . have:=h3' k m ok om hk hm
   simp only [hs,Bool.and_eq_true,Bool.or_eq_true,Bool.not_eq_true'] at this
   have h4:=this.1.2
   have h5 : (looks l ok).contains s=true:=by simpa using hl
   rw [h5] at h4
   obtain ⟨h6,h7⟩:=h4.resolve_left (by simp)
   exact ⟨masks_spec h6,fun hh => by rw [hh] at h7; exact h7.resolve_left (by simp)⟩
 . have:=h3' k m ok om hk hm
   simp only [Bool.and_eq_true,Bool.or_eq_true,Bool.not_eq_true'] at this
   have h4:=this.2
   rw [t1,t2,show Nat.blt m k=true by simpa using hlt] at h4
   exact masks_spec (h4.resolve_left (by simp))

section
variable {P : Program} {Z : Nat->Prop} {N B : Nat} {M : Nat->Prop} {w0 : World}

theorem headA_final {l : List Oper} {K : St->Prop} : ∀ {r : List Oper} {st : St},headA P N l r st K->(r.Pairwise fun o o' => o.dst ≠ o'.dst∧∀ s ∈ looks l o,o'.dst ≠ some s)->(∀ o ∈ r,∀ s ∈ looks l o,o.dst ≠ some s) ->
 ∃ stn,K stn∧stn.o=st.o∧(∀ s,(∀ o ∈ r,o.dst ≠ some s)->lk s stn.s=lk s st.s)∧∀ o ∈ r,∃ av,Yl P N l stn o av∧∀ d,o.dst=some d->lk d stn.s=some av
 | [],st,h,_,_ => ⟨st,h,rfl,fun _ _ => rfl,by simp⟩
 | o :: r, st, h, hp, hq => by
   obtain ⟨av,h1,h2⟩:=headA_Yl h
   rw [List.pairwise_cons] at hp
   obtain ⟨stn,h3,h4,h5,h6⟩:=headA_final h2 hp.2 fun o' ho' => hq o' (by simp [ho'])
   have ho : stn.o=st.o:=by rw [h4]; cases o.dst<;>rfl
   refine ⟨stn,h3,ho,fun s hs => ?_,fun o' ho' => ?_⟩
   . rw [h5 s fun o' ho' => hs o' (by simp [ho']),lk_put,if_neg (hs o (by simp))]
   . rcases List.mem_cons.1 ho' with rfl | ho'
     . refine ⟨av,Yl_alike ⟨ho,fun s hs => ?_⟩ h1,fun d hd => ?_⟩
       . rw [h5 s fun o2 ho2 => (hp.1 o2 ho2).2 s hs,lk_put,if_neg (hq _ (by simp) s hs)]
       . rw [h5 d fun o2 ho2 e => (hp.1 o2 ho2).1 (hd.trans e.symm),lk_put,if_pos hd]
     . exact h6 o' ho'

theorem ev_data {st st' : St} {x : Operand} {y : D} (h : ∀ s,x=.tmp s->∀ y,lk s st.s=some (.d y)->lk s st'.s=some (.d y)) (hx : ev st x=some (.d y)) : ev st' x=some (.d y):=by
 cases x with
 | tmp t => exact h t rfl y hx
 | const v => exact hx
 | func f => exact hx
 | global g => exact hx
theorem partsD_data {st st' : St} : ∀ {ps : List (Nat × Operand)} {ys},(∀ p ∈ ps,∀ s,p.2=.tmp s->∀ y,lk s st.s=some (.d y)->lk s st'.s=some (.d y))->partsD st ps=some ys->partsD st' ps=some ys
 | [],_,_,h => h
 | (i, x) :: r, ys, hp, h => by
   simp only [partsD] at h ⊢
   split at h
   . rename_i y hy
     split at h
     . rename_i zs hz
       rw [ev_data (hp (i,x) (by simp)) hy,partsD_data (fun p hp' => hp p (by simp [hp'])) hz]
       exact h
     . cases h
   . cases h
theorem bound_data {st st' : St} {x : Option Operand} {b} (h : ∀ y ∈ x.toList,∀ s,y=.tmp s->∀ z,lk s st.s=some (.d z)->lk s st'.s=some (.d z)) (hb : bound x st=some b) : bound x st'=some b:=by
 cases x with
 | none => exact hb
 | some y =>
   simp only [bound] at hb ⊢
   split at hb
   . rename_i k n hy; rw [ev_data (h y (by simp)) hy]; exact hb
   . cases hb

def Sb : AV->Prop
 | .d _ => True
 | .e0 => True
 | _ => False
theorem Sb.has {y : AV} (h : Sb y) (j : Nat) : y.has j=false:=by
 cases y<;>first | rfl | exact h.elim
theorem ev_sb {st st' : St} {x : Operand} {y : AV} (hy : Sb y) (h : ∀ s,x=.tmp s->∀ y,Sb y->lk s st.s=some y->lk s st'.s=some y) (hx : ev st x=some y) : ev st' x=some y:=by
 cases x with
 | tmp t => exact h t rfl y hy hx
 | const v => exact hx
 | func f => exact hx
 | global g => exact hx
theorem Yl_data {l : List Oper} {o : Oper} {st st' : St} {x : AV} (hsb : Sb x) (hin : insD st o) (hh : isH o=true) (hg : o.guard=none) (hs : ∀ s ∈ looks l o,∀ y,Sb y->lk s st.s=some y->lk s st'.s=some y) (hq : Yl P N l st o x) : Yl P N l st' o x:=by
 obtain ⟨hd,hq⟩:=hq
 refine ⟨hd,?_⟩
 simp only [guardA,hg] at hq ⊢
 have hevs : ∀ z ∈ o.op.operands,∀ s,z=.tmp s->∀ y,Sb y->lk s st.s=some y->lk s st'.s=some y:=fun z hz s e => by
  subst e
  exact hs s (List.mem_append_left _ (List.mem_filterMap.2 ⟨.tmp s,by simpa using hz,rfl⟩))
 have hev : ∀ z ∈ o.op.operands,∀ s,z=.tmp s->∀ y,lk s st.s=some (.d y)->lk s st'.s=some (.d y):=fun z hz s e y => hevs z hz s e (.d y) trivial
 unfold isH at hh
 unfold hopA at hq ⊢
 split at hh
 . rename_i z hop
   rw [hop] at hq hev hevs ⊢
   simp only [qv] at hq ⊢
   cases hz : ev st z with
   | none => simp [hz,hv] at hq
   | some av =>
     simp only [hz,Option.map_some] at hq
     obtain ⟨_,rfl⟩:=hq
     rw [ev_sb hsb (fun s e => hevs z (by simp [Op.operands]) s e) hz]
     exact ⟨trivial,rfl⟩
 . rename_i t z lo hi hop
   rw [hop] at hq hev ⊢
   have e1 : ∀ st,qv P st (.slice t z lo hi none)=none:=fun st => by simp only [qv,e0V]
   rw [e1] at hq ⊢
   simp only [hv] at hq ⊢
   cases hz : ev st z with
   | none => simp [hz] at hq
   | some av =>
     cases av with
     | d y =>
       simp only [hz] at hq
       rw [ev_data (fun s e => hev z (by simp [Op.operands]) s e) hz]
       cases hl : bound lo st with
       | none => simp [hl] at hq
       | some b1 =>
         cases hr : bound hi st with
         | none => simp [hl,hr] at hq
         | some b2 =>
           rw [bound_data (fun y hy s e => hev y (by simp at hy; subst hy; simp [Op.operands]) s e) hl,bound_data (fun y hy s e => hev y (by simp at hy; subst hy; simp [Op.operands]) s e) hr]
           simpa [hl,hr] using hq
     | _ => simp [hz] at hq
 . rename_i t len ps hop
   rw [hop] at hq hev ⊢
   simp only [qv,hv] at hq ⊢
   cases hz : partsD st ps.toList with
   | none => simp [hz] at hq
   | some ys =>
     rw [partsD_data (fun p hp s e => hev p.2 (by simp [Op.operands]; exact ⟨p.1,by simpa using hp⟩) s e) hz]
     simpa [hz] using hq
 . rename_i t z hop
   rw [hop] at hq hev ⊢
   unfold insD at hin
   rw [hop] at hin
   cases z with
   | tmp s =>
     obtain ⟨y,hy⟩:=isDD_spec hin
     have hy':=hev (.tmp s) (by simp [Op.operands]) s rfl y hy
     have e1 : ev st (.tmp s)=some (.d y):=hy
     have e2 : ev st' (.tmp s)=some (.d y):=hy'
     have e3 : qv P st' (.load t (.tmp s))=qv P st (.load t (.tmp s)):=by
      simp only [qv,e1,e2,Option.bind_some]
      cases y<;>rfl
     have e4 : hv P st' (.load t (.tmp s))=hv P st (.load t (.tmp s)):=rfl
     rw [e3,e4]; exact hq
   | _ => exact hin.elim
 . rename_i t z f hop
   rw [hop] at hq hev ⊢
   unfold insD at hin
   rw [hop] at hin
   cases z with
   | tmp s =>
     obtain ⟨y,hy⟩:=isDD_spec hin
     have hy':=hev (.tmp s) (by simp [Op.operands]) s rfl y hy
     have e1 : ev st (.tmp s)=some (.d y):=hy
     have e2 : ev st' (.tmp s)=some (.d y):=hy'
     have e3 : qv P st' (.fieldAddr t (.tmp s) f)=qv P st (.fieldAddr t (.tmp s) f):=by simp only [qv,e1,e2]
     have e4 : hv P st' (.fieldAddr t (.tmp s) f)=hv P st (.fieldAddr t (.tmp s) f):=rfl
     rw [e3,e4]; exact hq
   | _ => exact hin.elim
 . rename_i t z i hop
   rw [hop] at hq hev ⊢
   unfold insD at hin
   rw [hop] at hin
   cases z with
   | tmp s =>
     obtain ⟨y,hy⟩:=isDD_spec hin
     have hy':=hev (.tmp s) (by simp [Op.operands]) s rfl y hy
     have e1 : ev st (.tmp s)=some (.d y):=hy
     have e2 : ev st' (.tmp s)=some (.d y):=hy'
     have e4 : ∀ st,hv P st (.indexAddr t (.tmp s) i)=none:=fun _ => rfl
     rw [e4] at hq ⊢
     cases hi : ev st i with
     | none =>
       have : qv P st (.indexAddr t (.tmp s) i)=none:=by simp only [qv,e1,hi]
       rw [this] at hq; simp at hq
     | some av =>
       cases av with
       | d z =>
         have hi':=ev_data (st':=st') (fun s' e => hev i (by simp [Op.operands]) s' e) hi
         have e3 : qv P st' (.indexAddr t (.tmp s) i)=qv P st (.indexAddr t (.tmp s) i):=by
          simp only [qv,e1,e2,hi,hi']
          cases z<;>try rfl
          simp only [indexV]
          cases elemSl P t<;>cases elemAr P t<;>cases y<;>first | rfl | (rename_i w; cases w<;>rfl)
         rw [e3]; exact hq
       | _ =>
         have : qv P st (.indexAddr t (.tmp s) i)=none:=by simp only [qv,e1,hi]
         rw [this] at hq; simp at hq
   | _ => exact hin.elim
 . rename_i f t x1 x2 u hop
   rw [hop] at hq hev ⊢
   have e4 : ∀ st,hv P st (.binOp f t x1 x2 u)=none:=fun _ => rfl
   rw [e4] at hq ⊢
   cases h1 : ev st x1 with
   | none =>
     have : qv P st (.binOp f t x1 x2 u)=none:=by simp only [qv,h1]
     rw [this] at hq; simp at hq
   | some a1 =>
     cases h2 : ev st x2 with
     | none =>
       have : qv P st (.binOp f t x1 x2 u)=none:=by simp only [qv,h1,h2]
       rw [this] at hq; simp at hq
     | some a2 =>
       by_cases hd : (∃ y1,a1=.d y1)∧∃ y2,a2=.d y2
       . obtain ⟨⟨y1,rfl⟩,y2,rfl⟩:=hd
         have h1':=ev_data (st':=st') (fun s' e => hev x1 (by simp [Op.operands]) s' e) h1
         have h2':=ev_data (st':=st') (fun s' e => hev x2 (by simp [Op.operands]) s' e) h2
         have e3 : qv P st' (.binOp f t x1 x2 u)=qv P st (.binOp f t x1 x2 u):=by simp only [qv,h1,h2,h1',h2']
         rw [e3]; exact hq
       . have : qv P st (.binOp f t x1 x2 u)=none:=by
          simp only [qv,h1,h2]
          split
          . rename_i e1 e2; cases e1; cases e2; exact absurd ⟨⟨_,rfl⟩,_,rfl⟩ hd
          . rename_i e1 e2; cases e1; cases e2; exact absurd ⟨⟨_,rfl⟩,_,rfl⟩ hd
          . rename_i e1 e2; cases e1; cases e2; exact absurd ⟨⟨_,rfl⟩,_,rfl⟩ hd
          . rename_i e1 e2; cases e1; cases e2; exact absurd ⟨⟨_,rfl⟩,_,rfl⟩ hd
          . rename_i e1 e2; cases e1; cases e2; exact absurd ⟨⟨_,rfl⟩,_,rfl⟩ hd
          . rename_i e1 e2; cases e1; cases e2; exact absurd ⟨⟨_,rfl⟩,_,rfl⟩ hd
          . rfl
         rw [this] at hq; simp at hq
 . cases hh

theorem lk_wipeS_eq {i j : Nat} : ∀ (l : List (Nat × AV)),lk i (wipeS j l)=(lk i l).map fun v => if v.has j then .undef else v
 | [] => rfl
 | (k, v) :: r => by
   simp only [wipeS,lk]
   split
   . rfl
   . exact lk_wipeS_eq r
theorem killL_same {i : Nat} : ∀ {ks : List Nat} {st st' : St},lk i st'.s=lk i st.s->lk i (killL ks st').s=lk i (killL ks st).s
 | [],_,_,h => h
 | k :: r,st,st',h => killL_same (ks:=r) (st:=st.kill k) (st':=st'.kill k) (by simp only [St.kill,lk_wipeS_eq,h])
theorem killL_so : ∀ {ks : List Nat} {st st' : St},st'.o=st.o->(killL ks st').o=(killL ks st).o
 | [],_,_,h => h
 | k :: r,st,st',h => killL_so (ks:=r) (st:=st.kill k) (st':=st'.kill k) (by simp only [St.kill,h])
theorem killL_data {i : Nat} {y : AV} (hy : Sb y) : ∀ {ks : List Nat} {st : St},lk i st.s=some y->lk i (killL ks st).s=some y
 | [],_,h => h
 | k :: r,st,h => killL_data hy (ks:=r) (st:=st.kill k) (by simp only [St.kill,lk_wipeS_eq,h,Option.map_some,hy.has,Bool.false_eq_true,if_false])

theorem Sb.frz {y : AV} (h : Sb y) (j : Nat) (es : List D) : y.frz j es=y:=by
 cases y<;>first | rfl | exact absurd h (by simp [Sb])
def Frm (dst : Option Nat) (st st' q q' : St) : Prop :=
 q'.o=q.o∧(∀ s,lk s st'.s=lk s st.s∨dst=some s->lk s q'.s=lk s q.s)∧∀ s y,Sb y->dst ≠ some s->lk s st.s=some y->lk s q.s=some y

theorem Frm.mk' {d : Nat} {st st' : St} {v : AV} {s1 s1' : List (Nat × AV)} {o : List (Nat × AO)} (h1 : ∀ s,lk s st'.s=lk s st.s->lk s s1'=lk s s1) (h2 : ∀ s y,Sb y->lk s st.s=some y->lk s s1=some y) :
 Frm (some d) st st' ⟨ins d v s1,o⟩ ⟨ins d v s1',o⟩:=by
 refine ⟨rfl,fun s hs => ?_,fun s y hy hne hs => ?_⟩
 . simp only [lk_ins]
   split
   . rfl
   . rename_i hne
     exact h1 s (hs.resolve_right fun e => hne (by cases e; rfl))
 . simp only [lk_ins]
   rw [if_neg fun e => hne (by rw [e])]
   exact h2 s y hy hs

theorem looks_ev {l : List Oper} {o : Oper} {st st' : St} (hs : ∀ s ∈ looks l o,lk s st'.s=lk s st.s) : ∀ x ∈ o.op.operands,ev st' x=ev st x:=fun x hx => ev_alike fun s e => by
 subst e
 exact hs s (List.mem_append_left _ (List.mem_filterMap.2 ⟨.tmp s,by simpa using hx,rfl⟩))

theorem deepAt_frame {st st' : St} {j : Nat} {t es st1} (ho : st'.o=st.o) (hq : deepAt st j=some (t,es,st1)) :
 ∃ st1',deepAt st' j=some (t,es,st1')∧st1'.o=st1.o∧(∀ s,lk s st'.s=lk s st.s->lk s st1'.s=lk s st1.s)∧∀ s y,Sb y->lk s st.s=some y->lk s st1.s=some y:=by
 unfold deepAt at hq ⊢
 rw [ho]
 split at hq
 . cases hq
   exact ⟨st',rfl,ho,fun s h => h,fun s y _ h => h⟩
 . split at hq
   . cases hq
   . rename_i hdj
     rw [if_neg hdj]
     split at hq
     . cases hq
       exact ⟨_,rfl,rfl,fun s h => by simp only [lk_wipeS_eq,h],fun s y hy h => by simp only [lk_wipeS_eq,h,Option.map_some,hy.has,Bool.false_eq_true,if_false]⟩
     . cases hq
 . cases hq
theorem appendD_frame {st st' : St} {d j : Nat} {e : TypeId} {x : Operand} {cc q} (hx : ev st' x=ev st x) (ho : st'.o=st.o) (hq : appendD P st d e j x=some (cc,q)) :
 ∃ q',appendD P st' d e j x=some (cc,q')∧Frm (some d) st st' q q':=by
 unfold appendD at hq ⊢
 split at hq
 . rename_i e' k es st1 hd
   obtain ⟨st1',h1,h2,h3,h4⟩:=deepAt_frame ho hd
   simp only [h1]
   have hx1 : ev st1' x=ev st1 x:=by
    cases x with
    | tmp t => exact h3 t hx
    | const v => rfl
    | func f => rfl
    | global g => rfl
   simp only [hx1,h2]
   split at hq
   . split at hq
     . cases hq
     . rename_i hij
       rw [if_neg hij]
       split at hq
       . cases hq
         exact ⟨_,rfl,by
          simp only [St.kill,h2]
          exact Frm.mk' (fun s h => by simp only [lk_wipeS_eq,h3 s h]) fun s y hy h => by simp only [lk_wipeS_eq,h4 s y hy h,Option.map_some,hy.has,Bool.false_eq_true,if_false]⟩
       . cases hq
   . cases hq
 . cases hq
theorem append1_frame {st st' : St} {d j : Nat} {e : TypeId} {x : Operand} {es : List D} {cc q} (hx : ev st' x=ev st x) (ho : st'.o=st.o) (hq : append1 P st d e j x es=some (cc,q)) :
 ∃ q',append1 P st' d e j x es=some (cc,q')∧Frm (some d) st st' q q':=by
 unfold append1 at hq ⊢
 simp only [hx,ho] at hq ⊢
 split at hq
 . split at hq
   . cases hq
   . rename_i hij
     rw [if_neg hij]
     split at hq
     . cases hq
       exact ⟨_,rfl,by
        simp only [St.kill,ho]
        exact Frm.mk' (fun s h => by simp only [lk_wipeS_eq,h]) fun s y hy h => by simp only [lk_wipeS_eq,h,Option.map_some,hy.has,Bool.false_eq_true,if_false]⟩
     . cases hq
 . cases hq
theorem appendF_frame {st st' : St} {d j : Nat} {e : TypeId} {x : Operand} {cc q} (hx : ev st' x=ev st x) (ho : st'.o=st.o) (hq : appendF P st d e j x=some (cc,q)) :
 ∃ q',appendF P st' d e j x=some (cc,q')∧Frm (some d) st st' q q':=by
 unfold appendF at hq ⊢
 simp only [hx,ho,St.frz] at hq ⊢
 split at hq
 . split at hq
   . cases hq
   . rename_i hij
     rw [if_neg hij]
     split at hq
     . rename_i t0 ys hi
       split at hq
       . rename_i e' k es hj
         cases hq
         try simp only [hi,hj]
         exact ⟨_,rfl,Frm.mk' (fun s h => by simp only [lk_wipeS_eq,lk_frzS_eq,h]) fun s y hy h => by simp only [lk_wipeS_eq,lk_frzS_eq,h,Option.map_some,hy.frz,hy.has,Bool.false_eq_true,if_false]⟩
       . cases hq
     . cases hq
 . cases hq
theorem appendA_frame {st st' : St} {d : Nat} {args : List Operand} {ts : List TypeId} {cc q} (hargs : ∀ y ∈ args,ev st' y=ev st y) (ho : st'.o=st.o) (hq : appendA P st d args ts=some (cc,q)) :
 ∃ q',appendA P st' d args ts=some (cc,q')∧Frm (some d) st st' q q':=by
 unfold appendA at hq ⊢
 split at hq
 . rename_i s x t t'
   have hes : ev st' s=ev st s:=hargs s (by simp)
   have hex : ev st' x=ev st x:=hargs x (by simp)
   have hnr : noRoomS st' s=noRoomS st s:=by unfold noRoomS; split<;>simp only [hes]
   simp only [hnr,hes,hex,ho,newsOf] at hq ⊢
   split at hq
   . rename_i hne
     rw [if_pos hne]
     unfold appendM at hq ⊢
     simp only [hes,hex,ho] at hq ⊢
     split at hq
     . split at hq
       . cases hq
         exact ⟨_,rfl,Frm.mk' (fun s h => by simp only [lk_wipeS_eq,h]) fun s y hy h => by simp only [lk_wipeS_eq,h,Option.map_some,hy.has,Bool.false_eq_true,if_false]⟩
       . cases hq
     . cases hq
   . rename_i hne
     rw [if_neg hne]
     split at hq
     . rename_i hno
       rw [if_pos hno]
       split at hq
       . unfold append0 at hq ⊢
         simp only [hes] at hq ⊢
         split at hq
         . cases hq
           exact ⟨_,rfl,by unfold St.put; simp only; rw [ho]; exact Frm.mk' (fun s h => h) fun s y _ h => h⟩
         . cases hq
           exact ⟨_,rfl,by
            unfold newSt; rw [ho]
            exact Frm.mk' (fun s h => by simp only [lk_wipeS_eq,h]) fun s y hy h => by simp only [lk_wipeS_eq,h,Option.map_some,hy.has,Bool.false_eq_true,if_false]⟩
       . rename_i e j he hxj
         split at hq
         . rename_i e' k' ys hj
           have hef : ev (st'.frz j ys) s=ev (st.frz j ys) s:=by
            cases s with
            | tmp i =>
              show lk i (frzS j ys st'.s)=lk i (frzS j ys st.s)
              have : lk i st'.s=lk i st.s:=hes
              rw [lk_frzS_eq,lk_frzS_eq,this]
            | const v => rfl
            | func f => rfl
            | global g => rfl
           have hnf : noRoomS (st'.frz j ys) s=noRoomS (st.frz j ys) s:=by unfold noRoomS; split<;>simp only [hef]
           have hof : (st'.frz j ys).o=(st.frz j ys).o:=by simp only [St.frz,ho]
           rw [hnf]
           split at hq
           . rename_i hnr'
             rw [if_pos hnr']
             unfold append0 at hq ⊢
             simp only [hef] at hq ⊢
             split at hq
             . cases hq
               exact ⟨_,rfl,by
                unfold St.put; simp only; rw [hof]
                exact Frm.mk' (fun s h => by simp only [St.frz,lk_frzS_eq,h]) fun s y hy h => by simp only [St.frz,lk_frzS_eq,h,Option.map_some,hy.frz]⟩
             . cases hq
               exact ⟨_,rfl,by
                unfold newSt; rw [hof]
                exact Frm.mk' (fun s h => by simp only [St.frz,lk_wipeS_eq,lk_frzS_eq,h]) fun s y hy h => by simp only [St.frz,lk_wipeS_eq,lk_frzS_eq,h,Option.map_some,hy.frz,hy.has,Bool.false_eq_true,if_false]⟩
           . cases hq
         . cases hq
       . cases hq
     . rename_i hno
       rw [if_neg hno]
       split at hq
       . split at hq
         . exact appendD_frame hex ho hq
         . exact append1_frame hex ho hq
         split at hq
         . cases hq
           exact ⟨_,rfl,by
            exact Frm.mk' (fun s h => by simp only [lk_wipeS_eq,h]) fun s y hy h => by simp only [lk_wipeS_eq,h,Option.map_some,hy.has,Bool.false_eq_true,if_false]⟩
         . cases hq
           exact ⟨_,rfl,by
            exact Frm.mk' (fun s h => by simp only [lk_wipeS_eq,h]) fun s y hy h => by simp only [lk_wipeS_eq,h,Option.map_some,hy.has,Bool.false_eq_true,if_false]⟩
         . exact appendF_frame hex ho hq
         . cases hq
       . cases hq
 . cases hq

theorem tail_frame {l : List Oper} {o : Oper} {st st' : St} {K : St->Prop} (ht : isT o=true) (hg : o.guard=none) (hd : ∃ d,o.dst=some d) (hs : ∀ s ∈ looks l o,lk s st'.s=lk s st.s) (ho : st'.o=st.o)
 (hq : stepA P N l st o K) : stepA P N l st' o fun q' => ∃ q,K q∧Frm o.dst st st' q q':=by
 obtain ⟨d,hd⟩:=hd
 have hev:=looks_ev hs
 simp only [stepA,guardA,hg] at hq ⊢
 unfold isT at ht
 split at ht
 . rename_i c hop
   split at ht
   . -- a call
     rename_i x hcal
     have hargs : ∀ y ∈ c.args.toList,ev st' y=ev st y:=fun y hy => hev y (by rw [hop]; simp only [Op.operands,Call.operands,Array.mem_append]; exact .inr (by simpa using hy))
     have hx : ev st' x=ev st x:=hev x (by rw [hop]; simp only [Op.operands,Call.operands,hcal]; simp)
     have e1 : ∀ st K,opA P N st o K=callA P N st o.dst c K:=fun st K => by
      have h1 : lv P st o.dst (.call c) o.type=none:=by
       obtain ⟨ca,ar,ts⟩:=c
       simp only at hcal; subst hcal
       cases o.dst<;>rfl
      have h2 : qv P st (.call c)=none:=by
       obtain ⟨ca,ar,ts⟩:=c
       simp only at hcal; subst hcal
       rfl
      unfold opA
      simp only [hop,nilA,h1,h2]
     rw [e1] at hq ⊢
     unfold callA at hq ⊢
     simp only [hcal,hx,evs_alike hargs] at hq ⊢
     split at hq
     . rename_i f caps avs h1 h2
       rcases hq with ⟨d',sh,res,oo,e,h3,h4,h5⟩ | ⟨κ,ρ,ks,mavs,oi,keep,sh,R,h3,h4,h5,h6,h7,h8⟩
       . rw [hd] at e; cases e
         refine .inl ⟨d,sh,res,oo,hd,by rw [ho]; exact h3,h4,_,h5,?_⟩
         rw [hd]
         unfold impSt
         simp only
         rw [killL_so ho]
         exact Frm.mk' (fun s h => killL_same h) fun s y hy h => killL_data hy h
       . refine .inr ⟨κ,ρ,ks,mavs,oi,keep,sh,R,h3,by rw [ho]; exact h4,?_,h6,h7,fun res oo hR => ⟨(h8 res oo hR).1,_,(h8 res oo hR).2,?_⟩⟩
         . have : ∀ {oi : List (Nat × AO)},objsM st (nth κ) oi->objsM st' (nth κ) oi:=by
            intro oi
            induction oi with
            | nil => exact id
            | cons p r ih => obtain ⟨j,ob⟩:=p; exact fun h => ⟨by rw [ho]; exact h.1,ih h.2⟩
           exact this h5
         . rw [hd]
           unfold impM St.put
           simp only
           rw [killL_so ho]
           exact Frm.mk' (fun s h => killL_same h) fun s y hy h => killL_data hy h
     . rename_i z avs h1 h2
       split at hq
       . rename_i f y hz
         obtain ⟨d',sh,res,oo,e,h3,h4,h5⟩:=hq
         rw [hd] at e; cases e
         refine ⟨d,sh,res,oo,hd,by rw [ho]; exact h3,h4,_,h5,?_⟩
         rw [hd]
         unfold impSt
         simp only
         rw [killL_so ho]
         exact Frm.mk' (fun s h => killL_same h) fun s y hy h => killL_data hy h
       . exact hq.elim
     . exact hq.elim
   . -- an append
     rename_i hcal
     have hargs : ∀ y ∈ c.args.toList,ev st' y=ev st y:=fun y hy => hev y (by rw [hop]; simp only [Op.operands,Call.operands,Array.mem_append]; exact .inr (by simpa using hy))
     have e1 : ∀ st K,opA P N st o K=match appendA P st d c.args.toList c.argTypes.toList with | some (cc,q) => cc∧d < N∧K q | none => False:=fun st K => by
      obtain ⟨ca,ar,ts⟩:=c
      simp only at hcal; subst hcal
      unfold opA
      simp only [hop,nilA,qv,builtinV,lv,hd]
      cases appendA P st d ar.toList ts.toList with
      | none => simp [callA]
      | some p => rfl
     rw [e1] at hq ⊢
     cases ha : appendA P st d c.args.toList c.argTypes.toList with
     | none => simp [ha] at hq
     | some p =>
       obtain ⟨cc,q⟩:=p
       simp only [ha] at hq
       obtain ⟨q',h1,h2⟩:=appendA_frame hargs ho ha
       simp only [h1]
       exact ⟨hq.1,hq.2.1,q,hq.2.2,by rw [hd]; exact h2⟩
   . cases ht
 . rename_i t hop
   have hx : ev st' (.tmp t)=ev st (.tmp t):=hev _ (by rw [hop]; simp [Op.operands])
   have e1 : ∀ st K,opA P N st o K=match ev st (.tmp t) with | some av => True∧d < N∧K (st.put (some d) av) | none => False:=fun st K => by
    unfold opA
    simp only [hop,nilA,qv,hd]
    cases ev st (.tmp t) with
    | none => simp [lv]
    | some av => rfl
   rw [e1] at hq ⊢
   rw [hx]
   cases h : ev st (.tmp t) with
   | none => simp [h] at hq
   | some av =>
     simp only [h] at hq ⊢
     exact ⟨trivial,hq.2.1,_,hq.2.2,by rw [hd]; unfold St.put; simp only; rw [ho]; exact Frm.mk' (fun s h => h) fun s y _ h => h⟩
 . cases ht

theorem isT_isH {o : Oper} (h : isT o=true) : isH o=false:=by
 unfold isT at h
 split at h
 . rename_i hop; simp [isH,hop]
 . rename_i hop; simp [isH,hop]
 . cases h
theorem filter_first {p p' : Nat->Bool} {n i : Nat} (hi : i < n) (hlo : ∀ j,j < i->p j=false) (hp : p i=true) (hp' : ∀ j,p' j=(p j && decide (j ≠ i))) :
 (List.range n).filter p=i :: (List.range n).filter p':=by
 have hsplit : List.range n=List.range i++i :: (List.range' (i + 1) (n - i - 1)):=by
  rw [List.range_eq_range',List.range_eq_range',show n=i + (1 + (n - i - 1)) by omega,List.range'_append_1.symm,List.range'_append_1.symm]
  simp
 have h1 : ∀ q : Nat->Bool,(∀ j,j < i->q j=false)->(List.range i).filter q=[]:=fun q hq => by
  rw [List.filter_eq_nil_iff]; intro j hj; rw [hq j (List.mem_range.1 hj)]; simp
 rw [hsplit,List.filter_append,List.filter_append,h1 p hlo,h1 p' fun j hj => by rw [hp',hlo j hj]; rfl,List.filter_cons_of_pos (by simpa using hp),List.filter_cons_of_neg (by rw [hp']; simp)]
 simp only [List.nil_append,List.cons.injEq,true_and]
 apply List.filter_congr
 intro j hj
 have:=(List.mem_range'_1.1 hj).1
 rw [hp',decide_eq_true (by omega : j ≠ i),Bool.and_true]
def restI (l : List Oper) (listed : Array Bool) : List Nat:=(List.range l.length).filter fun k => (match l[k]? with | some o => isT o | none => false) && !listed.getD k false

theorem any2 {l : List Oper} (hC : Checked2 l) {K : St->Prop} {Q : Exit->Act->World->Prop} (hQ : ∀ st a w,Sim Z N B M w0 st a w->K st->Q .normal a w)
 {Sn : St} (hH : ∀ (k : Nat) (o : Oper),l[k]? = some o->isH o=true->∃ x,Sb x∧insD Sn o∧Yl P N l Sn o x∧∀ d,o.dst=some d->lk d Sn.s=some x) :
 ∀ (fuel : Nat) (listed : Array Bool) (st Sp : St) (a : Act) (w : World),listed.size=l.length->Closed l listed->fuel=(List.range l.length).countP (fun k => !listed.getD k false) ->
  opsA P N l ((restI l listed).filterMap (l[·]?)) Sp K->st.o=Sp.o ->
  (∀ s,(∀ (k : Nat) (o : Oper),l[k]? = some o->isH o=true->listed.getD k false=false->o.dst ≠ some s)->lk s st.s=lk s Sp.s) ->
  (∀ s y,Sb y->(∀ (k : Nat) (o : Oper),l[k]? = some o->isT o=true->o.dst ≠ some s)->lk s Sn.s=some y->lk s Sp.s=some y) ->
  Sim Z N B M w0 st a w->wpAny P .any l.toArray Q fuel listed a w:=by
 intro fuel
 induction fuel with
 | zero =>
   intro listed st Sp a w hsz hcl hcnt hK ho hlk hdat hs
   have hall : ∀ k,k < l.length->listed.getD k false=true:=fun k hk => by
    have:=List.countP_eq_zero.1 hcnt.symm k (List.mem_range.2 hk)
    simpa using this
   refine ⟨?_,?_⟩
   . cases hr : Region.ready .any l.toArray listed with
     | nil => rfl
     | cons x xs =>
       have hx : x ∈ Region.ready .any l.toArray listed:=by rw [hr]; simp
       obtain ⟨h1,o,hoo,_⟩:=ready_iff.1 hx
       have hxl:=(List.getElem?_eq_some_iff.1 hoo).1
       have : listed.getD x true=listed.getD x false:=by simp [show x < listed.size by omega]
       rw [this,hall x hxl] at h1
       cases h1
   . have hr : restI l listed=[]:=by
      unfold restI
      rw [List.filter_eq_nil_iff]
      intro k hk
      rw [hall k (List.mem_range.1 hk)]; simp
     rw [hr] at hK
     refine hQ Sp a w ?_ hK
     obtain ⟨β,φ,hB⟩:=hs
     have:=hB.sub (s':=Sp.s) fun i av hi => .inr (by
      rw [hlk i fun k o hk _ hf => by rw [hall k (List.getElem?_eq_some_iff.1 hk).1] at hf; cases hf]; exact hi)
     refine ⟨β,φ,?_⟩
     have e : Sp={ st with s:=Sp.s }:=by cases Sp; simp only at ho ⊢; rw [ho]
     rw [e]; exact this
 | succ fuel ih =>
   intro listed st Sp a w hsz hcl hcnt hK ho hlk hdat hs
   refine ⟨fun h0 => ?_,fun i hi => ?_⟩
   . -- something is ready
     exfalso
     have h1 : ∃ k,k < l.length∧listed.getD k false=false:=by
      refine Classical.byContradiction fun hno => ?_
      have : (List.range l.length).countP (fun k => !listed.getD k false)=0:=by
       rw [List.countP_eq_zero]; intro k hk
       cases hh : listed.getD k false with
       | true => simp
       | false => exact absurd ⟨k,List.mem_range.1 hk,hh⟩ hno
      omega
     have hex : ∃ k,k < l.length∧listed.getD k false=false∧∀ m,m < k->listed.getD m false=true:=by
      obtain ⟨k,hk⟩:=h1
      induction k using Nat.strongRecOn with
      | _ k ihk =>
        by_cases h2 : ∃ m,m < k∧listed.getD m false=false
        . obtain ⟨m,hm,hm2⟩:=h2
          exact ihk m hm ⟨by omega,hm2⟩
        . refine ⟨k,hk.1,hk.2,fun m hm => ?_⟩
          cases hh : listed.getD m false with
          | true => rfl
          | false => exact absurd ⟨m,hm,hh⟩ h2
     obtain ⟨k,hkl,hkf,hkm⟩:=hex
     have : k ∈ Region.ready .any l.toArray listed:=by
      rw [ready_iff]
      refine ⟨?_,l[k],by simp [hkl],fun e he hb => hkm _ (hC.back k l[k] (by simp [hkl]) e he hb)⟩
      have : listed.getD k true=listed.getD k false:=by simp [show k < listed.size by omega]
      rw [this]; exact hkf
     rw [h0] at this; cases this
   . obtain ⟨h1,o,hoi,h2⟩:=ready_iff.1 hi
     have hil:=(List.getElem?_eq_some_iff.1 hoi).1
     have hlt : i < listed.size:=by omega
     have hif : listed.getD i false=false:=by
      have : listed.getD i true=listed.getD i false:=by simp [hlt]
      rw [← this]; exact h1
     have hdep : ∀ {m},Dep l i m->listed.getD m false=true:=fun hd => hcl.ready hd fun o' ho' => by rw [hoi] at ho'; cases ho'; exact h2
     obtain ⟨hkind,hg,hdst⟩:=hC.kind i o hoi
     have hlooked : ∀ s ∈ looks l o,lk s st.s=lk s Sp.s:=fun s hs' => hlk s fun k ok hk hhk hkf hkd => by
      have:=hdep (hC.looked i k o ok s hoi hk hkd hs').1
      rw [hkf] at this; cases this
     have hcount : fuel=(List.range l.length).countP (fun k => !(listed.setIfInBounds i true).getD k false):=by
      have hmem : i ∈ List.range l.length:=List.mem_range.2 hil
      have hgen : ∀ (r : List Nat),r.Nodup->i ∈ r->r.countP (fun k => !listed.getD k false)=r.countP (fun k => !(listed.setIfInBounds i true).getD k false) + 1:=by
       intro r
       induction r with
       | nil => intro _ h; cases h
       | cons x r ihr =>
         intro hnd hm
         rw [List.nodup_cons] at hnd
         by_cases hx : i=x
         . subst hx
           have hrest : r.countP (fun k => !listed.getD k false)=r.countP (fun k => !(listed.setIfInBounds i true).getD k false):=by
            apply List.countP_congr
            intro k hk
            rw [set_getD hlt,if_neg (show ¬ k=i from fun e => hnd.1 (by rw [← e]; exact hk))]
           rw [List.countP_cons,List.countP_cons,hrest,hif,set_getD hlt,if_pos rfl]
           simp
         . have hmr : i ∈ r:=by
            rcases List.mem_cons.1 hm with h | h
            . exact absurd h hx
            . exact h
           rw [List.countP_cons,List.countP_cons,ihr hnd.2 hmr,set_getD hlt,if_neg (Ne.symm hx)]
           omega
      have:=hgen _ List.nodup_range hmem
      omega
     unfold wpOp
     have ho' : (l.toArray)[i]? = some o:=by simpa using hoi
     rw [ho']
     simp only
     rcases hkind with hT | hHd
     . -- one of the tail
       have hnH:=isT_isH hT
       have hrest : restI l listed=i :: restI l (listed.setIfInBounds i true):=by
        unfold restI
        refine filter_first hil (fun j hj => ?_) (by rw [hoi]; simp only; rw [hT,hif]; rfl) fun j => ?_
        . cases hoj : l[j]? with
          | none => rfl
          | some oj =>
            simp only
            cases hTj : isT oj with
            | false => rfl
            | true => rw [hdep (hC.chain i j o oj hoi hoj hT hTj hj)]; rfl
        . rw [set_getD hlt]
          by_cases e : j=i
          . subst e; simp
          . rw [if_neg e,decide_eq_true e,Bool.and_true]
       rw [hrest,List.filterMap_cons] at hK
       simp only [hoi] at hK
       have hst:=stepA_spec hs (tail_frame (st':=st) hT hg hdst hlooked ho hK) (K':=wpAny P .any l.toArray Q fuel (listed.setIfInBounds i true)) (Q:=Q) fun q' a' w' hs' ⟨q,hk,hF⟩ => by
        refine ih _ q' q a' w' (by simpa using hsz) (hcl.set hsz hi) hcount hk hF.1 (fun s hs2 => hF.2.1 s ?_) (fun s y hsy hs2 hy => hF.2.2 s y hsy (hs2 i o hoi hT) (hdat s y hsy hs2 hy)) hs'
        refine .inl (hlk s fun k ok hkk hhk hkf => hs2 k ok hkk hhk ?_)
        rw [set_getD hlt,if_neg]
        . exact hkf
        . rintro rfl; rw [hoi] at hkk; cases hkk; rw [hnH] at hhk; cases hhk
       split
       . rename_i hw; rw [if_pos hw] at hst; exact .inl hst
       . rename_i hw; rw [if_neg hw] at hst; exact hst
     . -- one of the head
       obtain ⟨x,hxs,hins,hY,hval⟩:=hH i o hoi hHd
       have hYst : Yl P N l st o x:=Yl_data hxs hins hHd hg (fun s hs' y hsy hy => by
        rw [hlooked s hs']
        refine hdat s y hsy (fun k ok hk hTk hkd => ?_) hy
        have:=(hC.looked i k o ok s hoi hk hkd hs').2 hHd
        rw [isT_isH hTk] at this; cases this) hY
       have hst:=Yl_spec hs hYst (K':=wpAny P .any l.toArray Q fuel (listed.setIfInBounds i true)) (Q:=Q) fun a' w' hs' => by
        refine ih _ _ Sp a' w' (by simpa using hsz) (hcl.set hsz hi) hcount ?_ (by obtain ⟨d,hd⟩:=hdst; rw [hd]; exact ho) (fun s hs2 => ?_) hdat hs'
        . have : restI l (listed.setIfInBounds i true)=restI l listed:=by
           unfold restI
           apply List.filter_congr
           intro k _
           rw [set_getD hlt]
           by_cases e : k=i
           . subst e; rw [hoi]; simp only
             have : isT o=false:=by
              cases hT : isT o with
              | false => rfl
              | true => rw [isT_isH hT] at hHd; cases hHd
             rw [this]; rfl
           . rw [if_neg e]
          rw [this]; exact hK
        . rw [lk_put]
          split
          . rename_i hd
            refine (hdat s x hxs (fun k ok hk hTk hkd => ?_) (hval s hd)).symm
            have hne : i ≠ k:=by rintro rfl; rw [hoi] at hk; cases hk; rw [isT_isH hTk] at hHd; cases hHd
            exact hC.apart i k o ok hoi hk hne (hd.trans hkd.symm)
          . rename_i hd
            refine hlk s fun k ok hk hhk hkf => ?_
            by_cases e : k=i
            . subst e; rw [hoi] at hk; cases hk; exact hd
            . exact hs2 k ok hk hhk (by rw [set_getD hlt,if_neg e]; exact hkf)
       split
       . rename_i hw; rw [if_pos hw] at hst; exact .inl hst
       . rename_i hw; rw [if_neg hw] at hst; exact hst

def isDV (x : Option AV) : Prop :=
 match x with
 | some (.d _) => True
 | some .e0 => True
 | _ => False
def slotD (st : St) (d : Option Nat) : Prop :=
 match d with
 | none => True
 | some d => isDV (lk d st.s)
def allData (st : St) : List Oper->Prop
 | [] => True
 | o :: r => slotD st o.dst∧insD st o∧allData st r
theorem isDV_spec {x : Option AV} (h : isDV x) : ∃ y,Sb y∧x=some y:=by
 unfold isDV at h
 split at h
 . rename_i y; exact ⟨.d y,trivial,rfl⟩
 . exact ⟨.e0,trivial,rfl⟩
 . exact h.elim
theorem slotD_spec {st : St} {d : Nat} (h : slotD st (some d)) : ∃ x,Sb x∧lk d st.s=some x:=isDV_spec h
theorem allData_mem {st : St} : ∀ {l : List Oper},allData st l->∀ o ∈ l,∀ d,o.dst=some d->∃ x,Sb x∧lk d st.s=some x
 | [],_,o',ho',d,hd => by cases ho'
 | o :: r, h, o', ho', d, hd => by
   rcases List.mem_cons.1 ho' with e | ho'
   . have h1:=h.1
     rw [← e,hd] at h1
     exact slotD_spec h1
   . exact allData_mem h.2.2 o' ho' d hd
theorem allData_ins {st : St} : ∀ {l : List Oper},allData st l->∀ o ∈ l,insD st o
 | [],_,o',ho' => by cases ho'
 | o :: r, h, o', ho' => by
   rcases List.mem_cons.1 ho' with e | ho'
   . rw [e]; exact h.2.1
   . exact allData_ins h.2.2 o' ho'

theorem wp_drawn2 {id : Nat} {l : List Oper} {K : St->Prop} {Q : Exit->Act->World->Prop} {st : St} {a : Act} {w : World} (hm : P.follows .mixedOrders=true) (hc : regionOK2 l=true)
 (hQ : ∀ st a w,Sim Z N B M w0 st a w->K st->Q .normal a w) (hs : Sim Z N B M w0 st a w) (hq : headA P N l (l.filter isH) st fun st' => allData st' (l.filter isH)∧opsA P N l (l.filter isT) st' K) :
 SW P (Code.region id l.toArray true) Q a w:=by
 have hC:=regionOK2_spec hc
 have hnodup : ∀ {r : List Oper},r.Sublist l->r.Pairwise fun o o' => o.dst ≠ o'.dst∧∀ s ∈ looks l o,o'.dst ≠ some s:=by
  intro r hr
  refine List.Pairwise.sublist hr ?_
  rw [List.pairwise_iff_getElem]
  intro i j hi hj hij
  have hgi : l[i]? = some l[i]:=by simp [hi]
  have hgj : l[j]? = some l[j]:=by simp [hj]
  refine ⟨hC.apart i j _ _ hgi hgj (by omega),fun s hs' hd => ?_⟩
  have hdep:=(hC.looked i j _ _ s hgi hgj hd hs').1
  have hback : ∀ {k m},Dep l k m->m < k:=by
   intro k m h
   induction h with
   | direct h he hb hm => subst hm; exact hC.back _ _ h _ he hb
   | trans _ _ h1 h2 => omega
  have:=hback hdep
  omega
 have hself : ∀ o ∈ l.filter isH,∀ s ∈ looks l o,o.dst ≠ some s:=fun o ho s hs' hd => by
  obtain ⟨k,hk,he⟩:=List.getElem_of_mem (List.mem_filter.1 ho).1
  have hgk : l[k]? = some o:=by simp [hk,he]
  have hdep:=(hC.looked k k _ _ s hgk hgk hd hs').1
  have hback : ∀ {k m},Dep l k m->m < k:=by
   intro k m h
   induction h with
   | direct h he hb hm => subst hm; exact hC.back _ _ h _ he hb
   | trans _ _ h1 h2 => omega
  have:=hback hdep
  omega
 obtain ⟨Sn,⟨hdata,hops⟩,ho,hlk,hY⟩:=headA_final hq (hnodup List.filter_sublist) hself
 show wpAny P .any l.toArray Q l.toArray.size (Array.replicate l.toArray.size false) a { w with drawn:=w.drawn + 1 }
 have hfalse : ∀ k,(Array.replicate l.length false).getD k false=false:=fun k => by
  rcases Nat.lt_or_ge k l.length with h | h
  . simp [h]
  . simp [h]
 have hrest : (restI l (Array.replicate l.length false)).filterMap (l[·]?)=l.filter isT:=by
  unfold restI
  have e1 : ((List.range l.length).filter fun k => (match l[k]? with | some o => isT o | none => false) && !(Array.replicate l.length false).getD k false)=(List.range l.length).filter fun k => (match l[k]? with | some o => isT o | none => false):=by
   apply List.filter_congr; intro k _; rw [hfalse]; simp
  rw [e1]
  have e2 : ∀ (pre r : List Oper),((List.range' pre.length r.length).filter fun k => (match (pre++r)[k]? with | some o => isT o | none => false)).filterMap ((pre++r)[·]?)=r.filter isT:=by
   intro pre r
   induction r generalizing pre with
   | nil => simp
   | cons o r ihr =>
     have h1 : (pre++o :: r)[pre.length]? = some o:=by simp
     have h2:=ihr (pre++[o])
     simp only [List.length_append,List.length_singleton,List.append_assoc,List.singleton_append] at h2
     rw [List.length_cons,List.range'_succ,List.filter_cons]
     simp only [h1]
     cases hT : isT o with
     | true => simp only [if_true,List.filterMap_cons,h1,List.filter_cons,hT]; rw [h2]
     | false => simp only [Bool.false_eq_true,if_false,List.filter_cons,hT]; rw [h2]
  have:=e2 [] l
  simpa [List.range_eq_range'] using this
 have:=any2 (P:=P) hC hQ (Sn:=Sn) (fun k o hk hh => by
  obtain ⟨av,h1,h2⟩:=hY o (List.mem_filter.2 ⟨List.mem_of_getElem? hk,hh⟩)
  obtain ⟨_,_,d,hd⟩:=hC.kind k o hk
  obtain ⟨x,hxs,hx⟩:=allData_mem hdata o (List.mem_filter.2 ⟨List.mem_of_getElem? hk,hh⟩) d hd
  have e:=h2 d hd
  rw [hx] at e; cases e
  exact ⟨_,hxs,allData_ins hdata o (List.mem_filter.2 ⟨List.mem_of_getElem? hk,hh⟩),h1,h2⟩) l.length (Array.replicate l.length false) st Sn a { w with drawn:=w.drawn + 1 } (by simp) (fun k o _ hk => by rw [hfalse k] at hk; cases hk)
  (by
   have : (List.range l.length).countP (fun k => !(Array.replicate l.length false).getD k false)=(List.range l.length).length:=by
    rw [List.countP_eq_length]; intro k _; rw [hfalse k]; rfl
   rw [this]; simp) (by rw [hrest]; exact hops) ho.symm (fun s hs' => (hlk s fun o ho' hd => by
    obtain ⟨k,hk,he⟩:=List.getElem_of_mem (List.mem_filter.1 ho').1
    exact hs' k o (by simp [hk,he]) (List.mem_filter.1 ho').2 (hfalse k) hd).symm) (fun _ _ _ _ h => h)
  (by obtain ⟨β,φ,hB⟩:=hs; exact ⟨β,φ,hB.drawn⟩)
 simpa using this
end
end Abs
