/- A region that draws its order: operations that change memory stand in a chain, and operations that only look may come at any time, as long as what they look at stays. No condition but the region's own check. -/
import Derived.Test.YtiafnejjhnjbfaaDoorAbsAny6
set_option linter.all false
namespace Abs
open Go Go.RowKit

def Frm7 (dst : Option Nat) (st st' q q' : St) : Prop:=q'.o=q.o∧∀ s,lk s st'.s=lk s st.s∨dst=some s->lk s q'.s=lk s q.s
section
variable {P : Program}
def Pt (st st' q q' : St) : Prop:=q'.o=q.o∧∀ s,lk s st'.s=lk s st.s->lk s q'.s=lk s q.s
theorem Pt.ev {st st' q q' : St} (h : Pt st st' q q') {x : Operand} (hx : ev st' x=ev st x) : Abs.ev q' x=Abs.ev q x:=by
 cases x with
 | tmp t => exact h.2 t hx
 | const v => rfl
 | func f => rfl
 | global g => rfl
theorem Pt.frz {st st' : St} (ho : st'.o=st.o) (j : Nat) (es : List D) : Pt st st' (st.frz j es) (st'.frz j es) :=
 ⟨by simp only [St.frz,ho],fun s h => by simp only [St.frz,lk_frzS_eq,h]⟩
theorem Pt.new {st st' q q' : St} (h : Pt st st' q q') (d : Nat) (av : AV) (o : AO) : Frm7 (some d) st st' (newSt d av o q) (newSt d av o q'):=by
 refine ⟨by simp only [newSt,h.1],fun s hs => ?_⟩
 simp only [newSt,lk_ins]
 split
 . rfl
 . rename_i hne
   rw [lk_wipeS_eq,lk_wipeS_eq,h.2 s (hs.resolve_right fun e => hne (by cases e; rfl))]
theorem Pt.put {st st' q q' : St} (h : Pt st st' q q') (d : Nat) (av : AV) : Frm7 (some d) st st' (q.put (some d) av) (q'.put (some d) av):=by
 refine ⟨h.1,fun s hs => ?_⟩
 rw [lk_put,lk_put]
 split
 . rfl
 . rename_i hne
   exact h.2 s (hs.resolve_right fun e => hne e)
theorem Pt.refl {st st' : St} (ho : st'.o=st.o) : Pt st st' st st':=⟨ho,fun _ h => h⟩
theorem Pt.none {st st' q q' : St} (h : Pt st st' q q') : Frm7 .none st st' q q':=⟨h.1,fun s hs => h.2 s (hs.resolve_right (by simp))⟩
theorem Pt.kill {st st' q q' : St} (h : Pt st st' q q') (k : Nat) : Pt st st' (q.kill k) (q'.kill k):=⟨by simp only [St.kill,h.1],fun s hs => by simp only [St.kill,lk_wipeS_eq,h.2 s hs]⟩
theorem Pt.killL {st st' : St} : ∀ {ks : List Nat} {q q' : St},Pt st st' q q'->Pt st st' (Abs.killL ks q) (Abs.killL ks q')
 | [],_,_,h => h
 | k :: r,q,q',h => Pt.killL (ks:=r) (h.kill k)
theorem dOf_frame {st st' q q' : St} (h : Pt st st' q q') {x : Operand} (hx : ev st' x=ev st x) : (dOf q x=.none∧dOf q' x=.none)∨∃ y q1 q1',dOf q x=some (y,q1)∧dOf q' x=some (y,q1')∧Pt st st' q1 q1':=by
 have hx:=h.ev hx
 unfold dOf
 simp only [hx,h.1]
 split
 . exact .inr ⟨_,_,_,rfl,rfl,h⟩
 . exact .inr ⟨_,_,_,rfl,rfl,h⟩
 . split
   . rename_i e k es hj
     exact .inr ⟨_,_,_,rfl,rfl,⟨by simp only [St.frz,h.1],fun s hs => by simp only [St.frz,lk_frzS_eq,h.2 s hs]⟩⟩
   . exact .inl ⟨rfl,rfl⟩
 . exact .inl ⟨rfl,rfl⟩
theorem dsOf_frame {st st' : St} : ∀ {ps : List (Nat × Operand)} {q q' : St},Pt st st' q q'->(∀ p ∈ ps,ev st' p.2=ev st p.2) ->
 (dsOf q ps=.none∧dsOf q' ps=.none)∨∃ ys q1 q1',dsOf q ps=some (ys,q1)∧dsOf q' ps=some (ys,q1')∧Pt st st' q1 q1'
 | [],q,q',h,_ => .inr ⟨_,_,_,rfl,rfl,h⟩
 | (i, x) :: r, q, q', h, hx => by
   simp only [dsOf]
   rcases dOf_frame h (hx (i,x) (by simp)) with ⟨h1,h2⟩ | ⟨y,q1,q1',h1,h2,h3⟩
   . rw [h1,h2]; exact .inl ⟨rfl,rfl⟩
   . rw [h1,h2]
     rcases dsOf_frame (ps:=r) h3 fun p hp => hx p (by simp [hp]) with ⟨h4,h5⟩ | ⟨ys,q2,q2',h4,h5,h6⟩
     . refine .inl ⟨?_,?_⟩<;>simp only [h4,h5]
     . refine .inr ⟨(i,y) :: ys,q2,q2',?_,?_,h6⟩<;>simp only [h4,h5]
theorem deepAt_pt {st st' : St} {j : Nat} (ho : st'.o=st.o) : (deepAt st j=.none∧deepAt st' j=.none)∨∃ t es q q',deepAt st j=some (t,es,q)∧deepAt st' j=some (t,es,q')∧Pt st st' q q':=by
 cases h : deepAt st j with
 | none =>
   refine .inl ⟨rfl,?_⟩
   cases h' : deepAt st' j with
   | none => rfl
   | some p =>
     obtain ⟨t,es,q⟩:=p
     obtain ⟨q',h1,_⟩:=deepAt_frame ho.symm h'
     rw [h] at h1; cases h1
 | some p =>
   obtain ⟨t,es,q⟩:=p
   obtain ⟨q',h1,h2,h3,_⟩:=deepAt_frame ho h
   exact .inr ⟨t,es,q,q',rfl,h1,h2,h3⟩
theorem buildD_frame {st st' : St} {d : Nat} {t : TypeId} {len : Nat} {ps : List (Nat × Operand)} {c q} (ho : st'.o=st.o) (hx : ∀ p ∈ ps,ev st' p.2=ev st p.2) (hq : buildD P st d t len ps=some (c,q)) :
 ∃ q',buildD P st' d t len ps=some (c,q')∧Frm7 (some d) st st' q q':=by
 unfold buildD at hq ⊢
 split at hq
 . rename_i x
   rw [hx (0,x) (by simp),ho]
   split at hq
   . rename_i e av g1 g2
     split at hq
     . rename_i cs hcs
       split at hq
       . rename_i c1 ds ks he
         simp only [g1,g2,hcs,he]
         cases hq
         have hk:=(Pt.refl ho).killL (ks:=d :: ks)
         refine ⟨_,rfl,⟨by simp only [hk.1],fun s hs => ?_⟩⟩
         simp only [lk_ins]
         split
         . rfl
         . rename_i hne
           exact hk.2 s (hs.resolve_right fun e => hne (by cases e; rfl))
       . cases hq
     . cases hq
   . cases hq
 . cases hq
theorem storeD_frame {st st' : St} {t : TypeId} {ad x : Operand} {j : Nat} {c q} (ho : st'.o=st.o) (ha : ev st' ad=ev st ad) (hx : ev st' x=ev st x) (hq : storeD P st t ad x j=some (c,q)) :
 ∃ q',storeD P st' t ad x j=some (c,q')∧Frm7 .none st st' q q':=by
 unfold storeD at hq ⊢
 rcases deepAt_pt (j:=j) ho with ⟨h1,h2⟩ | ⟨τ,es,s1,s1',h1,h2,h3⟩
 . rw [h1] at hq; rw [h2]
   unfold storeH at hq ⊢
   simp only [ho,ha,hx] at hq ⊢
   split at hq
   . rename_i τ es c0 j' k i fo d e0 e1 e2
     split at hq
     . rename_i ys hys
       cases hq
       try simp only [e0,e1,e2,hys]
       have hk:=(Pt.refl ho).killL (ks:=[d])
       exact ⟨_,rfl,by simp only [ho],fun s hs => hk.2 s (hs.resolve_right (by simp))⟩
     . cases hq
   . cases hq
 . rw [h1] at hq; rw [h2]
   simp only [h3.ev ha,h3.ev hx,h3.1] at hq ⊢
   split at hq
   . rename_i j' k i fo av e1 e2
     split at hq
     . rename_i cs hcs
       split at hq
       . rename_i c1 ds ks he
         cases hq
         try simp only [e1,e2,hcs,he]
         have hk:=h3.killL (ks:=ks)
         exact ⟨_,rfl,by simp only [hk.1],fun s hs => hk.2 s (hs.resolve_right (by simp))⟩
       . cases hq
     . cases hq
   . cases hq
theorem storeA_frame {st st' : St} {t : TypeId} {ad x : Operand} {c q} (ho : st'.o=st.o) (ha : ev st' ad=ev st ad) (hx : ev st' x=ev st x) (hq : storeA P st t ad x=some (c,q)) :
 ∃ q',storeA P st' t ad x=some (c,q')∧Frm7 .none st st' q q':=by
 unfold storeA at hq ⊢
 rw [ha]
 split at hq
 . rename_i j off hev
   simp only [hev,ho,hx]
   split at hq
   . rename_i e cells av h1 h2
     split at hq
     . rename_i cs hcs
       cases hq
       try simp only [h1,h2,hcs]
       exact ⟨_,rfl,by simp only [ho],fun s hs => hs.resolve_right (by simp)⟩
     . cases hq
   . rename_i e k es cs h1 h2
     cases hq
     try simp only [h1,h2]
     exact ⟨_,rfl,by simp only [ho],fun s hs => hs.resolve_right (by simp)⟩
   . cases hq
 . rename_i j k i fo hev
   simp only [hev,ho]
   split at hq
   . rename_i x1 x2 x3 h1
     try simp only [h1]
     exact storeD_frame ho ha hx hq
   . rename_i hnd
     rcases dOf_frame (Pt.refl ho) hx with ⟨h1,h2⟩ | ⟨y,q1,q1',h1,h2,h3⟩
     . rw [h1] at hq; cases hq
     . rw [h1] at hq; rw [h2]
       simp only [h3.1,h3.ev ha] at hq ⊢
       split at hq
       . rename_i e k' es j' k2 i' fo' g1 g2
         try simp only [g1,g2]
         split at hq
         . rename_i hc
           cases hq
           rw [if_pos hc]
           exact ⟨_,rfl,by simp only [h3.1],fun s hs => h3.2 s (hs.resolve_right (by simp))⟩
         . rename_i hc
           cases hq
           rw [if_neg hc]
           exact ⟨_,rfl,by simp only [h3.1],fun s hs => h3.2 s (hs.resolve_right (by simp))⟩
       . rename_i e k' es j' k2 i' fo' g1 g2
         try simp only [g1,g2]
         split at hq
         . rename_i hc
           cases hq
           rw [if_pos hc]
           exact ⟨_,rfl,by simp only [h3.1],fun s hs => h3.2 s (hs.resolve_right (by simp))⟩
         . cases hq
       . cases hq
 . cases hq

def notNil : Operand->Bool
 | .const (.slice none _ _) => false
 | _ => true
def isT7 (o : Oper) : Bool :=
 match o.op with
 | .call c => match c.callee with
   | .value _ => o.dst.isSome
   | .builtin .append => o.dst.isSome
   | .builtin .len => o.dst.isSome
   | _ => false
 | .assign _ => o.dst.isSome
 | .store .. => o.dst.isNone
 | .alloc _ => o.dst.isSome
 | .box _ _ => o.dst.isSome
 | .makeSlice .. => o.dst.isSome
 | .build .. => o.dst.isSome
 | .buildSlice .. => o.dst.isSome
 | .move _ => o.dst.isSome
 | .extract .. => o.dst.isSome
 | .fieldAddr .. => o.dst.isSome
 | .nilCheck _ => o.dst.isSome
 | .unOp .. => o.dst.isSome
 | .binOp _ _ _ y _ => o.dst.isSome && notNil y
 | .indexAddr .. => o.dst.isSome
 | .load .. => o.dst.isSome
 | _ => false
theorem lv_frame {st st' : St} {dst : Option Nat} {op : Op} {ty : TypeId} {c q} (hk : isT7 ⟨dst, op, ty, "", #[], none⟩ = true) (ho : st'.o = st.o) (hev : ∀ x ∈ op.operands, ev st' x = ev st x) (hq : lv P st dst op ty = some (c, q)) :
 ∃ q',lv P st' dst op ty=some (c,q')∧Frm7 dst st st' q q':=by
 have fr : ∀ {d : Nat} {q q'},Frm (some d) st st' q q'->Frm7 (some d) st st' q q':=fun h => ⟨h.1,h.2.1⟩
 cases op<;>simp only [isT7,Bool.false_eq_true] at hk
 case store t ad x =>
  obtain rfl:=Option.isNone_iff_eq_none.1 hk
  simp only [Op.operands] at hev
  exact storeA_frame ho (hev ad (by simp)) (hev x (by simp)) hq
 case alloc t =>
  obtain ⟨d,rfl⟩:=Option.isSome_iff_exists.1 hk
  simp only [lv] at hq ⊢
  cases hz : zeroD P t with
  | none => rw [hz] at hq; cases hq
  | some z =>
    rw [hz] at hq
    simp only at hq ⊢
    cases hb : boxO P t (nz z) with
    | none => rw [hb] at hq; cases hq
    | some r =>
      rw [hb] at hq
      simp only [Option.map_some,Option.some.injEq,Prod.mk.injEq] at hq ⊢
      obtain ⟨rfl,rfl⟩:=hq
      exact ⟨_,⟨rfl,rfl⟩,(Pt.refl ho).new d _ _⟩
 case box t x =>
  obtain ⟨d,rfl⟩:=Option.isSome_iff_exists.1 hk
  simp only [Op.operands] at hev
  simp only [lv] at hq ⊢
  rw [hev x (by simp)]
  cases hx : ev st x with
  | none => rw [hx] at hq; cases hq
  | some av =>
    rw [hx] at hq
    simp only at hq ⊢
    split at hq
    . cases hq
    . rename_i hh
      rw [if_neg hh]
      cases hb : boxO P t av with
      | none => rw [hb] at hq; cases hq
      | some r =>
        rw [hb] at hq
        simp only [Option.map_some,Option.some.injEq,Prod.mk.injEq] at hq ⊢
        obtain ⟨rfl,rfl⟩:=hq
        exact ⟨_,⟨by rw [ho],rfl⟩,(Pt.refl ho).new d _ _⟩
 case build t ps =>
  obtain ⟨d,rfl⟩:=Option.isSome_iff_exists.1 hk
  have hps : ∀ p ∈ ps.toList,ev st' p.2=ev st p.2:=fun p hp => hev p.2 (by simp [Op.operands]; exact ⟨p.1,by simpa using hp⟩)
  simp only [lv] at hq ⊢
  have hb : buildS P st' t ps.toList=buildS P st t ps.toList:=by
   unfold buildS
   rw [avParts_alike hps,ho]
  rw [hb]
  split at hq
  . rename_i c1 av hb1
    cases hq
    exact ⟨_,rfl,(Pt.refl ho).put d _⟩
  . rename_i hb1
    rcases dsOf_frame (Pt.refl ho) hps with ⟨h1,h2⟩ | ⟨ys,q1,q1',h1,h2,h3⟩
    . rw [h1] at hq; cases hq
    . rw [h1] at hq; rw [h2]
      simp only at hq ⊢
      split at hq
      . rename_i cs hcs
        split at hq
        . rename_i r hr
          cases hq
          try simp only [hcs,hr]
          exact ⟨_,rfl,h3.put d _⟩
        . cases hq
      . cases hq
 case buildSlice t len ps =>
  obtain ⟨d,rfl⟩:=Option.isSome_iff_exists.1 hk
  have hps : ∀ p ∈ ps.toList,ev st' p.2=ev st p.2:=fun p hp => hev p.2 (by simp [Op.operands]; exact ⟨p.1,by simpa using hp⟩)
  simp only [lv] at hq ⊢
  have hown : ownPart st' len ps.toList=ownPart st len ps.toList:=by
   unfold ownPart
   split
   . rename_i x hx
     rw [hps (0,x) (by rw [hx]; simp)]
   . rfl
  rw [hown]
  split at hq
  . rename_i hc
    rw [if_pos hc]
    exact buildD_frame ho hps hq
  . rename_i hc
    rw [if_neg hc]
    rcases dsOf_frame (Pt.refl ho) hps with ⟨h1,h2⟩ | ⟨ys,q1,q1',h1,h2,h3⟩
    . rw [h1] at hq; cases hq
    . rw [h1] at hq; rw [h2]
      simp only at hq ⊢
      split at hq
      . rename_i e he
        split at hq
        . rename_i z hz
          cases hq
          try simp only [he,hz]
          exact ⟨_,rfl,h3.new d _ _⟩
        . cases hq
      . cases hq
 case makeSlice t x y =>
  obtain ⟨d,rfl⟩:=Option.isSome_iff_exists.1 hk
  simp only [Op.operands] at hev
  simp only [lv] at hq ⊢
  rw [hev x (by simp),hev y (by simp)]
  split at hq
  . rename_i g1 g2
    split at hq
    . rename_i e he
      split at hq
      . rename_i z hz
        cases hq
        try simp only [g1,g2,he,hz]
        exact ⟨_,rfl,(Pt.refl ho).new d _ _⟩
      . cases hq
    . cases hq
  . cases hq
 case call cc =>
  obtain ⟨ca,ar,ts⟩:=cc
  cases ca with
  | value x => cases dst<;>simp only [lv] at hq<;>cases hq
  | builtin b =>
    cases dst with
    | none => cases b<;>first | (simp at hk; done) | (simp only [lv] at hq; cases hq; done)
    | some d =>
      cases b<;>first | (simp at hk; done) | (simp only [lv] at hq; cases hq; done) | skip
      simp only [lv] at hq
      obtain ⟨q',h1,h2⟩:=appendA_frame (P:=P) (d:=d) (fun y hy => hev y (by simp only [Op.operands,Call.operands,Array.mem_append]; exact .inr (by simpa using hy))) ho hq
      exact ⟨q',h1,fr h2⟩
  | _ => simp only [Bool.false_eq_true] at hk
 case load t x =>
  obtain ⟨d,rfl⟩:=Option.isSome_iff_exists.1 hk
  simp only [Op.operands] at hev
  have hx:=hev x (by simp)
  simp only [lv] at hq ⊢
  unfold borrowA at hq ⊢
  rw [hx]
  split at hq
  . rename_i j _ _ _ hj
    rcases deepAt_pt (j:=j) ho with ⟨h1,h2⟩ | ⟨τ,es,s1,s1',h1,h2,h3⟩
    . rw [h1] at hq; cases hq
    . rw [h1] at hq; rw [h2]
      simp only at hq ⊢
      rw [h3.ev hx]
      split at hq
      . split at hq
        . cases hq
        . rename_i hjd
          simp only [if_neg hjd]
          split at hq
          . rename_i hel
            simp only [if_pos hel]
            split at hq
            . rename_i ys hys
              cases hq
              refine ⟨_,rfl,by simp only [h3.1],fun s hs => ?_⟩
              simp only [lk_ins]
              split
              . rfl
              . rename_i hne
                rw [lk_wipeS_eq,lk_wipeS_eq,h3.2 s (hs.resolve_right fun e => hne (by cases e; rfl))]
            . cases hq
          . cases hq
      . cases hq
  . rename_i j q k i fo hj
    rw [ho]
    split at hq
    . rename_i k' es vs hlk
      try simp only [hlk]
      split at hq
      . cases hq
      . rename_i hag
        simp only [if_neg hag]
        split at hq
        . rename_i pp hpp
          try simp only [hpp]
          cases hq
          exact ⟨_,rfl,(Pt.refl ho).put d _⟩
        . cases hq
    . cases hq
  . cases hq
 all_goals
  obtain ⟨d,rfl⟩:=Option.isSome_iff_exists.1 (show dst.isSome=true by first | exact hk | exact (Bool.and_eq_true _ _ ▸ hk).1)
  simp only [lv] at hq
  cases hq

variable {Z : Nat->Prop} {N B : Nat} {M : Nat->Prop} {w0 : World}
theorem nilA_frame {st st' : St} {dst : Option Nat} {op : Op} {ty : TypeId} (ho : st'.o=st.o) : (nilA P st dst op ty=.none∧nilA P st' dst op ty=.none)∨∃ c q q',nilA P st dst op ty=some (c,q)∧nilA P st' dst op ty=some (c,q')∧Frm7 dst st st' q q':=by
 unfold nilA
 split
 . split
   . rename_i d e h1
     exact .inr ⟨_,_,_,rfl,rfl,(Pt.refl ho).new d _ _⟩
   . exact .inl ⟨rfl,rfl⟩
 . exact .inl ⟨rfl,rfl⟩
theorem tail_frame7 {l : List Oper} {o : Oper} {st st' : St} {K : St->Prop} (ht : isT7 o=true) (hg : o.guard=none) (hs : ∀ s ∈ looks l o,lk s st'.s=lk s st.s) (ho : st'.o=st.o)
 (hq : stepA P N l st o K) : stepA P N l st' o fun q' => ∃ q,K q∧Frm7 o.dst st st' q q':=by
 have hev:=looks_ev hs
 by_cases hcall : ∃ c x,o.op=.call c∧c.callee=.value x
 . obtain ⟨c,x,hop,hcal⟩:=hcall
   obtain ⟨d,hd⟩ : ∃ d,o.dst=some d:=by
    unfold isT7 at ht
    rw [hop] at ht
    simp only [hcal] at ht
    exact Option.isSome_iff_exists.1 ht
   simp only [stepA,guardA,hg] at hq ⊢
   have hargs : ∀ y ∈ c.args.toList,ev st' y=ev st y:=fun y hy => hev y (by rw [hop]; simp only [Op.operands,Call.operands,Array.mem_append]; exact .inr (by simpa using hy))
   have hx : ev st' x=ev st x:=hev x (by rw [hop]; simp only [Op.operands,Call.operands,hcal]; simp)
   have e1 : ∀ st K,opA P N st o K=callA P N st o.dst c K:=fun st K => by
    have h1 : lv P st o.dst (.call c) o.type=none:=by
     obtain ⟨ca,ar,ts⟩:=c
     simp only at hcal; subst hcal
     cases o.dst<;>rfl
    have h2 : qv P st (.call c)=none:=by
     obtain ⟨ca,ar,ts⟩:=c
     simp only at hcal; subst hcal
     rfl
    unfold opA
    simp only [hop,nilA,h1,h2]
   rw [e1] at hq ⊢
   unfold callA at hq ⊢
   simp only [hcal,hx,evs_alike hargs] at hq ⊢
   split at hq
   . rename_i f caps avs h1 h2
     have fr : ∀ {av : AV} {ks : List Nat} {oo : List (Nat × AO)},Frm7 (some d) st st' ⟨ins d av (killL ks st).s,insAll oo (killL ks st).o⟩ ⟨ins d av (killL ks st').s,insAll oo (killL ks st').o⟩:=fun {av ks oo} => by
      have hk:=(Pt.refl ho).killL (ks:=ks)
      refine ⟨by simp only [hk.1],fun s hs => ?_⟩
      simp only [lk_ins]
      split
      . rfl
      . rename_i hne
        exact hk.2 s (hs.resolve_right fun e => hne (by cases e; rfl))
     rcases hq with ⟨d',sh,res,oo,e,h3,h4,h5⟩ | ⟨κ,ρ,ks,mavs,oi,keep,sh,R,h3,h4,h5,h6,h7,h8⟩
     . rw [hd] at e; cases e
       refine .inl ⟨d,sh,res,oo,hd,by rw [ho]; exact h3,h4,_,h5,?_⟩
       rw [hd]
       exact fr
     . refine .inr ⟨κ,ρ,ks,mavs,oi,keep,sh,R,h3,by rw [ho]; exact h4,?_,h6,h7,fun res oo hR => ⟨(h8 res oo hR).1,_,(h8 res oo hR).2,?_⟩⟩
       . have : ∀ {oi : List (Nat × AO)},objsM st (nth κ) oi->objsM st' (nth κ) oi:=by
          intro oi
          induction oi with
          | nil => exact id
          | cons p r ih => obtain ⟨j,ob⟩:=p; exact fun h => ⟨by rw [ho]; exact h.1,ih h.2⟩
         exact this h5
       . rw [hd]
         exact fr
   . rename_i z avs h1 h2
     split at hq
     . rename_i f y hz
       have fr : ∀ {av : AV} {ks : List Nat} {oo : List (Nat × AO)},Frm7 (some d) st st' ⟨ins d av (killL ks st).s,insAll oo (killL ks st).o⟩ ⟨ins d av (killL ks st').s,insAll oo (killL ks st').o⟩:=fun {av ks oo} => by
        have hk:=(Pt.refl ho).killL (ks:=ks)
        refine ⟨by simp only [hk.1],fun s hs => ?_⟩
        simp only [lk_ins]
        split
        . rfl
        . rename_i hne
          exact hk.2 s (hs.resolve_right fun e => hne (by cases e; rfl))
       obtain ⟨d',sh,res,oo,e,h3,h4,h5⟩:=hq
       rw [hd] at e; cases e
       refine ⟨d,sh,res,oo,hd,by rw [ho]; exact h3,h4,_,h5,?_⟩
       rw [hd]
       exact fr
     . exact hq.elim
   . exact hq.elim
 . obtain ⟨dst,op,ty,pos,after,guard⟩:=o
   simp only at hg hcall
   subst hg
   simp only [stepA,guardA] at hq ⊢
   have hqv : qv P st' op=qv P st op:=qv_alike ho hev
   unfold opA at hq ⊢
   simp only at hq ⊢
   rcases nilA_frame (P:=P) (dst:=dst) (op:=op) (ty:=ty) ho with ⟨h1,h2⟩ | ⟨c,q,q',h1,h2,h3⟩
   . rw [h1] at hq; rw [h2,hqv]
     simp only at hq ⊢
     cases hv : qv P st op with
     | some r =>
       obtain ⟨c,av⟩:=r
       rw [hv] at hq
       refine ⟨hq.1,hq.2.1,_,hq.2.2,?_⟩
       cases dst with
       | none => exact (Pt.refl ho).none
       | some d => exact (Pt.refl ho).put d av
     | none =>
       rw [hv] at hq
       simp only at hq ⊢
       cases hl : lv P st dst op ty with
       | some r =>
         obtain ⟨c,q⟩:=r
         rw [hl] at hq
         obtain ⟨q',g1,g2⟩:=lv_frame (P:=P) (st':=st') (ty:=ty) ht ho hev hl
         rw [g1]
         exact ⟨hq.1,hq.2.1,q,hq.2.2,g2⟩
       | none =>
         rw [hl] at hq
         simp only at hq
         cases op<;>simp only [isT7,Bool.false_eq_true] at ht<;>try exact hq.elim
         case binOp =>
          simp only [Bool.and_eq_true] at ht
          simp only [nilCmpA] at hq
          split at hq
          . exact absurd ht.2 (by simp [notNil])
          . exact hq.elim
         rename_i cc
         obtain ⟨ca,ar,ts⟩:=cc
         cases ca with
         | value x => exact absurd ⟨_,x,rfl,rfl⟩ hcall
         | _ => simp only [callA] at hq
   . rw [h1] at hq; rw [h2]
     exact ⟨hq.1,hq.2.1,q,hq.2.2,h3⟩

def isH7 (v : Bool) (o : Oper) : Bool :=
 isQ4 o || (v && isC o) || match o.op with
  | .slice _ _ _ _ none => true
  | .nilCheck _ => true
  | .call c => match c.callee with
    | .builtin .len => true
    | _ => false
  | _ => false
def cls7 (v : Bool) (l : List Oper) : List Nat->List Oper->List Bool
 | _,[] => []
 | Ds,o :: r => if isH7 v o && o.dst.isSome && (looks l o).all (fun s => !Ds.contains s) then true :: cls7 v l Ds r else false :: cls7 v l (o.dst.toList++Ds) r
def ok7 (cls : List Bool) (l : List Oper) : Bool :=
 let b:=masks l
 (l.zipIdx.all fun (o,k) => bif cls.getD k false then o.dst.isSome else isT7 o && o.guard.isNone) &&
 (l.zipIdx.all fun (o,i) => o.after.all fun e => !Region.binds .any e || e.on < i) &&
 (l.zipIdx.all fun (ok,k) => l.zipIdx.all fun (om,m) => (k == m || match om.dst with | some s => ok.dst != some s | none => true) &&
  (match om.dst with | some s => !(looks l ok).contains s || ((b.getD k 0).testBit m && (!cls.getD k false || cls.getD m false)) || (!cls.getD m false && Nat.blt k m && (b.getD m 0).testBit k) | none => true) &&
  (cls.getD k false || cls.getD m false || !Nat.blt m k || (b.getD k 0).testBit m))
def regionOK7 (v : Bool) (l : List Oper) : Bool:=ok7 (cls7 v l [] l) l
def feeds (l : List Oper) : Bool:=l.any fun o => (match o.op with | .call c => (match c.callee with | .value _ => true | _ => false) | _ => false) && l.any fun b => (match b.op with | .build .. => true | _ => false) && (match o.dst with | some d => (looks l b).contains d | none => false)
def grows (l : List Oper) : Bool:=l.any fun o => match o.op with
 | .call c => (match c.callee with
   | .builtin .append => (match c.args.toList, c.argTypes.toList with
     | (.tmp s) :: _, ts => l.any fun b => b.dst == some s && (match b.op with
       | .load .. => true
       | .call cc => (match cc.callee, ts with
         | .value _,[t,t'] => t != t'
         | _,_ => false)
       | _ => false)
     | _,_ => false)
   | _ => false)
 | _ => false
structure Checked7 (cls : List Bool) (l : List Oper) : Prop where
 hd : ∀ (k : Nat) (o : Oper),l[k]? = some o->cls.getD k false=true->∃ d,o.dst=some d
 tl : ∀ (k : Nat) (o : Oper),l[k]? = some o->cls.getD k false=false->isT7 o=true∧o.guard=none
 back : ∀ (i : Nat) (o : Oper),l[i]? = some o->∀ e ∈ o.after,Region.binds .any e=true->e.on < i
 apart : ∀ (k m : Nat) (ok om : Oper) (s : Nat),l[k]? = some ok->l[m]? = some om->k ≠ m->om.dst=some s->ok.dst ≠ some s
 looked : ∀ (k m : Nat) (ok om : Oper) (s : Nat),l[k]? = some ok->l[m]? = some om->om.dst=some s->s ∈ looks l ok->(Dep l k m∧(cls.getD k false=true->cls.getD m false=true))∨(cls.getD m false=false∧k < m)
 chain : ∀ (k m : Nat) (ok om : Oper),l[k]? = some ok->l[m]? = some om->cls.getD k false=false->cls.getD m false=false->m < k->Dep l k m
theorem ok7_spec {cls : List Bool} {l : List Oper} (h : ok7 cls l=true) : Checked7 cls l:=by
 unfold ok7 at h
 simp only [Bool.and_eq_true] at h
 obtain ⟨⟨h1,h2⟩,h3⟩:=h
 have zip : ∀ {p : Oper × Nat->Bool},l.zipIdx.all p=true->∀ i o,l[i]? = some o->p (o,i)=true:=by
  intro p hp i o ho
  rw [List.all_eq_true] at hp
  exact hp _ (List.mem_iff_getElem?.2 ⟨i,by simp [List.getElem?_zipIdx,ho]⟩)
 have h3' : ∀ k m ok om,l[k]? = some ok->l[m]? = some om->_:=fun k m ok om hk hm => zip (zip h3 k ok hk) m om hm
 refine ⟨fun k o hk hc => ?_,fun k o hk hc => ?_,fun i o ho e he hb => ?_,fun k m ok om s hk hm hne hs hd => ?_,fun k m ok om s hk hm hs hl => ?_,fun k m ok om hk hm t1 t2 hlt => ?_⟩
 . have:=zip h1 k o hk
   rw [hc] at this
   exact Option.isSome_iff_exists.1 this
 . have:=zip h1 k o hk
   rw [hc] at this
   simp only [cond_false,Bool.and_eq_true] at this
   exact ⟨this.1,Option.isNone_iff_eq_none.1 this.2⟩
 . have:=zip h2 i o ho
   simp only [Array.all_eq_true_iff_forall_mem] at this
   have:=this e he
   simp [hb] at this
   exact this
 . have:=h3' k m ok om hk hm
   simp only [hs,Bool.and_eq_true,Bool.or_eq_true,beq_iff_eq,bne_iff_ne,ne_eq] at this
   exact this.1.1.resolve_left hne hd
 . have:=h3' k m ok om hk hm
   simp only [hs,Bool.and_eq_true] at this
   have h4:=this.1.2
   have h5 : (looks l ok).contains s=true:=by simpa using hl
   rw [h5] at h4
   simp only [Bool.not_true,Bool.false_or,Bool.or_eq_true,Bool.and_eq_true] at h4
   rcases h4 with h4 | h4
   . exact .inl ⟨masks_spec h4.1,fun hh => by have:=h4.2; rw [hh] at this; simpa using this⟩
   . exact .inr ⟨by simpa using h4.1.1,by simpa using h4.1.2⟩
 . have:=h3' k m ok om hk hm
   simp only [Bool.and_eq_true] at this
   have h4:=this.2
   rw [t1,t2,show Nat.blt m k=true by simpa using hlt] at h4
   exact masks_spec (by simpa using h4)

def sameAt (S S' : St) : List Oper->Prop
 | [] => True
 | o :: r => (match o.dst with | some d => lk d S'.s=lk d S.s | none => True)∧sameAt S S' r
theorem sameAt_mem {S S' : St} : ∀ {l : List Oper},sameAt S S' l->∀ o ∈ l,∀ d,o.dst=some d->lk d S'.s=lk d S.s
 | [],_,_,h,_,_ => by cases h
 | o :: r, h, o', ho', d, hd => by
   rcases List.mem_cons.1 ho' with e | e
   . have:=h.1
     rw [← e,hd] at this
     exact this
   . exact sameAt_mem h.2 o' e d hd
def floats (l : List Oper) (j : Nat) (hs : List (Oper × Nat)) : List Oper:=(hs.filter fun p => !((masks l).getD j 0).testBit p.2).map (·.1)
def tail7 (P : Program) (N : Nat) (l : List Oper) (hs : List (Oper × Nat)) : List (Oper × Nat)->St->(St->Prop)->Prop
 | [],S,K => K S
 | (o,j) :: r,S,K => stepA P N l S o fun S' => headA P N l (floats l j hs) S' (fun S'' => sameAt S' S'' (floats l j hs))∧tail7 P N l hs r S' K
def hs7 (cls : List Bool) (l : List Oper) : List (Oper × Nat):=l.zipIdx.filter fun p => cls.getD p.2 false
def ts7 (cls : List Bool) (l : List Oper) : List (Oper × Nat):=l.zipIdx.filter fun p => !cls.getD p.2 false
def Alive (P : Program) (N : Nat) (l : List Oper) (S : St) (o : Oper) : Prop:=∃ x,Yl P N l S o x∧∀ d,o.dst=some d->lk d S.s=some x

theorem zip_sub {cls : List Bool} {l : List Oper} : ∀ p ∈ l.zipIdx,l[p.2]? = some p.1:=fun p hp => by
 have:=List.mem_iff_getElem?.1 hp
 obtain ⟨i,hi⟩:=this
 rw [List.getElem?_zipIdx] at hi
 obtain ⟨o,ho,e⟩:=Option.map_eq_some_iff.1 hi
 subst e
 simpa using ho
theorem alive_of {cls : List Bool} {l : List Oper} (hX : Checked7 cls l) {S : St} {r : List Oper} (hr : r.Sublist ((hs7 cls l).map (·.1))) {K : St->Prop} (h : headA P N l r S K) :
 ∃ Sn,K Sn∧Sn.o=S.o∧(∀ s,(∀ o ∈ r,o.dst ≠ some s)->lk s Sn.s=lk s S.s)∧∀ o ∈ r,Alive P N l Sn o:=by
 have hback : ∀ {k m},Dep l k m->m < k:=by
  intro k m h
  induction h with
  | direct h he hb hm => subst hm; exact hX.back _ _ h _ he hb
  | trans _ _ h1 h2 => omega
 have hpw : (l.zipIdx).Pairwise fun p p' => cls.getD p'.2 false=true->p.1.dst ≠ .none->p'.1.dst ≠ .none->p.1.dst ≠ p'.1.dst∧∀ s ∈ looks l p.1,p'.1.dst ≠ some s:=by
  rw [List.pairwise_iff_getElem]
  intro i j hi hj hij
  simp only [List.getElem_zipIdx,Nat.zero_add]
  have hli : i < l.length:=by simpa using hi
  have hlj : j < l.length:=by simpa using hj
  intro h0 h1 h2
  have hgi : l[i]? = some l[i]:=by simp [hli]
  have hgj : l[j]? = some l[j]:=by simp [hlj]
  refine ⟨fun e => ?_,fun s hs' hd => ?_⟩
  . obtain ⟨d,hd⟩:=Option.ne_none_iff_exists'.1 h2
    exact hX.apart i j _ _ d hgi hgj (by omega) hd (e.trans hd)
  . rcases hX.looked i j _ _ s hgi hgj hd hs' with h | h
    . have:=hback h.1; omega
    . have h1:=h.1; rw [h0] at h1; cases h1
 have hpw2 : (hs7 cls l).Pairwise fun p p' => p.1.dst ≠ p'.1.dst∧∀ s ∈ looks l p.1,p'.1.dst ≠ some s:=by
  refine List.Pairwise.imp_of_mem (fun {p p'} hp hp' h => ?_) (hpw.sublist List.filter_sublist)
  have a1:=List.mem_filter.1 hp
  have a2:=List.mem_filter.1 hp'
  obtain ⟨d1,e1⟩:=hX.hd _ _ (zip_sub (cls:=cls) p a1.1) a1.2
  obtain ⟨d2,e2⟩:=hX.hd _ _ (zip_sub (cls:=cls) p' a2.1) a2.2
  exact h a2.2 (by rw [e1]; simp) (by rw [e2]; simp)
 have hmem : ∀ o ∈ r,∃ k,l[k]? = some o∧cls.getD k false=true:=fun o ho => by
  obtain ⟨p,hp,e⟩:=List.mem_map.1 (hr.subset ho)
  have a1:=List.mem_filter.1 hp
  exact ⟨p.2,by rw [← e]; exact zip_sub (cls:=cls) p a1.1,a1.2⟩
 obtain ⟨stn,h3,h4,h5,h6⟩:=headA_final h (List.Pairwise.sublist hr (by
  rw [List.pairwise_map]; exact hpw2)) fun o ho s hs' hd => by
  obtain ⟨k,hk,_⟩:=hmem o ho
  rcases hX.looked k k _ _ s hk hk hd hs' with h | h
  . have:=hback h.1; omega
  . have:=h.2; omega
 exact ⟨stn,h3,h4,h5,fun o ho => h6 o ho⟩
def restI7 (cls : List Bool) (l : List Oper) (listed : Array Bool) : List (Oper × Nat):=(ts7 cls l).filter fun p => !listed.getD p.2 false

theorem any7 {cls : List Bool} {l : List Oper} (hC : Checked7 cls l) {K : St->Prop} {Q : Exit->Act->World->Prop} (hQ : ∀ st a w,Sim Z N B M w0 st a w->K st->Q .normal a w) :
 ∀ (fuel : Nat) (listed : Array Bool) (st Sp : St) (a : Act) (w : World),listed.size=l.length->Closed l listed->fuel=(List.range l.length).countP (fun k => !listed.getD k false) ->
  tail7 P N l (hs7 cls l) (restI7 cls l listed) Sp K->st.o=Sp.o ->
  (∀ s,(∀ (k : Nat) (o : Oper),l[k]? = some o->cls.getD k false=true->listed.getD k false=false->o.dst ≠ some s)->lk s st.s=lk s Sp.s) ->
  (∀ (k : Nat) (o : Oper),l[k]? = some o->cls.getD k false=true->listed.getD k false=false->Alive P N l Sp o) ->
  Sim Z N B M w0 st a w->wpAny P .any l.toArray Q fuel listed a w:=by
 intro fuel
 induction fuel with
 | zero =>
   intro listed st Sp a w hsz hcl hcnt hK ho hlk hal hs
   have hall : ∀ k,k < l.length->listed.getD k false=true:=fun k hk => by
    have:=List.countP_eq_zero.1 hcnt.symm k (List.mem_range.2 hk)
    simpa using this
   refine ⟨?_,?_⟩
   . cases hr : Region.ready .any l.toArray listed with
     | nil => rfl
     | cons x xs =>
       have hx : x ∈ Region.ready .any l.toArray listed:=by rw [hr]; simp
       obtain ⟨h1,o,hoo,_⟩:=ready_iff.1 hx
       have hxl:=(List.getElem?_eq_some_iff.1 hoo).1
       have : listed.getD x true=listed.getD x false:=by simp [show x < listed.size by omega]
       rw [this,hall x hxl] at h1
       cases h1
   . have hr : restI7 cls l listed=[]:=by
      unfold restI7
      rw [List.filter_eq_nil_iff]
      intro p hp
      have h1:=zip_sub (cls:=cls) p (List.mem_filter.1 hp).1
      rw [hall p.2 (List.getElem?_eq_some_iff.1 h1).1]; simp
     rw [hr] at hK
     refine hQ Sp a w ?_ hK
     exact hs.congr2 (fun s => (hlk s fun k o hk _ hf => by rw [hall k (List.getElem?_eq_some_iff.1 hk).1] at hf; cases hf).symm) fun j => by rw [ho]
 | succ fuel ih =>
   intro listed st Sp a w hsz hcl hcnt hK ho hlk hal hs
   refine ⟨fun h0 => ?_,fun i hi => ?_⟩
   . exfalso
     have h1 : ∃ k,k < l.length∧listed.getD k false=false:=by
      refine Classical.byContradiction fun hno => ?_
      have : (List.range l.length).countP (fun k => !listed.getD k false)=0:=by
       rw [List.countP_eq_zero]; intro k hk
       cases hh : listed.getD k false with
       | true => simp
       | false => exact absurd ⟨k,List.mem_range.1 hk,hh⟩ hno
      omega
     have hex : ∃ k,k < l.length∧listed.getD k false=false∧∀ m,m < k->listed.getD m false=true:=by
      obtain ⟨k,hk⟩:=h1
      induction k using Nat.strongRecOn with
      | _ k ihk =>
        by_cases h2 : ∃ m,m < k∧listed.getD m false=false
        . obtain ⟨m,hm,hm2⟩:=h2
          exact ihk m hm ⟨by omega,hm2⟩
        . refine ⟨k,hk.1,hk.2,fun m hm => ?_⟩
          cases hh : listed.getD m false with
          | true => rfl
          | false => exact absurd ⟨m,hm,hh⟩ h2
     obtain ⟨k,hkl,hkf,hkm⟩:=hex
     have : k ∈ Region.ready .any l.toArray listed:=by
      rw [ready_iff]
      refine ⟨?_,l[k],by simp [hkl],fun e he hb => hkm _ (hC.back k l[k] (by simp [hkl]) e he hb)⟩
      have : listed.getD k true=listed.getD k false:=by simp [show k < listed.size by omega]
      rw [this]; exact hkf
     rw [h0] at this; cases this
   . obtain ⟨h1,o,hoi,h2⟩:=ready_iff.1 hi
     have hil:=(List.getElem?_eq_some_iff.1 hoi).1
     have hlt : i < listed.size:=by omega
     have hif : listed.getD i false=false:=by
      have : listed.getD i true=listed.getD i false:=by simp [hlt]
      rw [← this]; exact h1
     have hdep : ∀ {m},Dep l i m->listed.getD m false=true:=fun hd => hcl.ready hd fun o' ho' => by rw [hoi] at ho'; cases ho'; exact h2
     have hlooked : ∀ s ∈ looks l o,lk s st.s=lk s Sp.s:=fun s hs' => hlk s fun k ok hk hhk hkf hkd => by
      rcases hC.looked i k o ok s hoi hk hkd hs' with h | h
      . have:=hdep h.1; rw [hkf] at this; cases this
      . have:=h.1; rw [hhk] at this; cases this
     have hcount : fuel=(List.range l.length).countP (fun k => !(listed.setIfInBounds i true).getD k false):=by
      have hmem : i ∈ List.range l.length:=List.mem_range.2 hil
      have hgen : ∀ (r : List Nat),r.Nodup->i ∈ r->r.countP (fun k => !listed.getD k false)=r.countP (fun k => !(listed.setIfInBounds i true).getD k false) + 1:=by
       intro r
       induction r with
       | nil => intro _ h; cases h
       | cons x r ihr =>
         intro hnd hm
         rw [List.nodup_cons] at hnd
         by_cases hx : i=x
         . subst hx
           have hrest : r.countP (fun k => !listed.getD k false)=r.countP (fun k => !(listed.setIfInBounds i true).getD k false):=by
            apply List.countP_congr
            intro k hk
            rw [set_getD hlt,if_neg (show ¬ k=i from fun e => hnd.1 (by rw [← e]; exact hk))]
           rw [List.countP_cons,List.countP_cons,hrest,hif,set_getD hlt,if_pos rfl]
           simp
         . have hmr : i ∈ r:=by
            rcases List.mem_cons.1 hm with h | h
            . exact absurd h hx
            . exact h
           rw [List.countP_cons,List.countP_cons,ihr hnd.2 hmr,set_getD hlt,if_neg (Ne.symm hx)]
           omega
      have:=hgen _ List.nodup_range hmem
      omega
     unfold wpOp
     have ho' : (l.toArray)[i]? = some o:=by simpa using hoi
     rw [ho']
     simp only
     have hset : ∀ {k : Nat},(listed.setIfInBounds i true).getD k false=false->listed.getD k false=false∧k ≠ i:=fun {k} h => by
      rw [set_getD hlt] at h
      split at h
      . cases h
      . rename_i e; exact ⟨h,e⟩
     cases hci : cls.getD i false with
     | false =>
       obtain ⟨hT,hg⟩:=hC.tl i o hoi hci
       have hzi : (o,i) ∈ l.zipIdx:=List.mem_iff_getElem?.2 ⟨i,by simp [List.getElem?_zipIdx,hoi]⟩
       have hrest : restI7 cls l listed=(o,i) :: restI7 cls l (listed.setIfInBounds i true):=by
        unfold restI7 ts7
        rw [List.filter_filter,List.filter_filter]
        obtain ⟨l1,l2,hl12⟩ : ∃ l1 l2,l.zipIdx=l1++(o,i) :: l2∧l1.length=i:=by
         refine ⟨l.zipIdx.take i,l.zipIdx.drop (i + 1),?_,by rw [List.length_take,List.length_zipIdx]; omega⟩
         have : (o,i) :: l.zipIdx.drop (i + 1)=l.zipIdx.drop i:=by
          rw [List.drop_eq_getElem_cons (show i < l.zipIdx.length by simpa using hil)]
          congr 1
          have hh : l[i]=o:=by rw [List.getElem?_eq_getElem hil] at hoi; exact Option.some.inj hoi
          simp [List.getElem_zipIdx,hh]
         rw [this,List.take_append_drop]
        have hnd : ∀ p ∈ l1,p.2 < i:=fun p hp => by
         obtain ⟨n,hn⟩:=List.mem_iff_getElem?.1 hp
         have hn2:=(List.getElem?_eq_some_iff.1 hn).1
         have : (l.zipIdx)[n]? = some p:=by rw [hl12.1,List.getElem?_append_left hn2]; exact hn
         rw [List.getElem?_zipIdx] at this
         obtain ⟨x,_,e⟩:=Option.map_eq_some_iff.1 this
         rw [← e]; simp; omega
        have hnd2 : ∀ p ∈ l2,p.2 ≠ i:=fun p hp => by
         obtain ⟨n,hn⟩:=List.mem_iff_getElem?.1 hp
         have : (l.zipIdx)[i + 1 + n]? = some p:=by
          rw [hl12.1,List.getElem?_append_right (by omega),hl12.2,show i + 1 + n - i=n + 1 by omega,List.getElem?_cons_succ]; exact hn
         rw [List.getElem?_zipIdx] at this
         obtain ⟨x,_,e⟩:=Option.map_eq_some_iff.1 this
         rw [← e]; simp
         omega
        have hearly : ∀ p ∈ l1,(!listed.getD p.2 false && !cls.getD p.2 false)=false:=fun p hp => by
         cases hpc : cls.getD p.2 false with
         | true => simp
         | false =>
           have h5:=zip_sub (cls:=cls) p (by rw [hl12.1]; exact List.mem_append_left _ hp)
           rw [hdep (hC.chain i p.2 o p.1 hoi h5 hci hpc (hnd p hp))]; rfl
        rw [hl12.1,List.filter_append,List.filter_append]
        have e1 : ∀ (L : Array Bool),(∀ p ∈ l1,(!L.getD p.2 false && !cls.getD p.2 false)=false)->l1.filter (fun p => !L.getD p.2 false && !cls.getD p.2 false)=[]:=fun L h => by
         rw [List.filter_eq_nil_iff]; intro p hp; rw [h p hp]; simp
        rw [e1 listed hearly,e1 (listed.setIfInBounds i true) fun p hp => by rw [set_getD hlt,if_neg (by have:=hnd p hp; omega)]; exact hearly p hp]
        rw [List.filter_cons_of_pos (by simp only [hif,hci]; rfl),List.filter_cons_of_neg (by rw [set_getD hlt,if_pos rfl]; simp)]
        simp only [List.nil_append,List.cons.injEq,true_and]
        apply List.filter_congr
        intro p hp
        rw [set_getD hlt,if_neg (hnd2 p hp)]
       rw [hrest] at hK
       have hst:=stepA_spec hs (tail_frame7 (st':=st) hT hg hlooked ho hK) (K':=wpAny P .any l.toArray Q fuel (listed.setIfInBounds i true)) (Q:=Q) fun q' a' w' hs' ⟨q,⟨hkeep,hk⟩,hF⟩ => by
        refine ih _ q' q a' w' (by simpa using hsz) (hcl.set hsz hi) hcount hk hF.1 (fun s hs2 => hF.2 s ?_) (fun k ok hkk hhk hkf => ?_) hs'
        . by_cases hds : o.dst=some s
          . exact .inr hds
          . refine .inl (hlk s fun k ok hkk hhk hkf => hs2 k ok hkk hhk ?_)
            rw [set_getD hlt,if_neg]
            . exact hkf
            . rintro rfl; rw [hci] at hhk; cases hhk
        . -- what was not listed is alive
          obtain ⟨hkf',hki⟩:=hset hkf
          have hnm : ((masks l).getD i 0).testBit k=false:=by
           cases hb : ((masks l).getD i 0).testBit k with
           | false => rfl
           | true => rw [hdep (masks_spec hb)] at hkf'; cases hkf'
          have hmemf : ok ∈ floats l i (hs7 cls l):=by
           refine List.mem_map.2 ⟨(ok,k),List.mem_filter.2 ⟨List.mem_filter.2 ⟨List.mem_iff_getElem?.2 ⟨k,by simp [List.getElem?_zipIdx,hkk]⟩,hhk⟩,?_⟩,rfl⟩
           simp only [hnm]; rfl
          obtain ⟨Sn,g1,g2,g3,g4⟩:=alive_of hC (List.Sublist.map _ List.filter_sublist) hkeep
          obtain ⟨x,k1,k2⟩:=g4 ok hmemf
          have hslots : ∀ s,lk s q.s=lk s Sn.s:=fun s => by
           by_cases hw : ∃ o' ∈ floats l i (hs7 cls l),o'.dst=some s
           . obtain ⟨o',h5,h6⟩:=hw
             exact (sameAt_mem g1 o' h5 s h6).symm
           . exact (g3 s fun o' h5 h6 => hw ⟨o',h5,h6⟩).symm
          exact ⟨x,Yl_alike ⟨g2.symm,fun s _ => hslots s⟩ k1,fun d hd => (hslots d).trans (k2 d hd)⟩
       split
       . rename_i hw; rw [if_pos hw] at hst; exact .inl hst
       . rename_i hw; rw [if_neg hw] at hst; exact hst
     | true =>
       obtain ⟨d,hd⟩:=hC.hd i o hoi hci
       obtain ⟨x,hY,hx⟩:=hal i o hoi hci hif
       have hYst : Yl P N l st o x:=Yl_alike ⟨ho,hlooked⟩ hY
       have hst:=Yl_spec hs hYst (K':=wpAny P .any l.toArray Q fuel (listed.setIfInBounds i true)) (Q:=Q) fun a' w' hs' => by
        refine ih _ _ Sp a' w' (by simpa using hsz) (hcl.set hsz hi) hcount ?_ (by rw [hd]; exact ho) (fun s hs2 => ?_) (fun k ok hkk hhk hkf => hal k ok hkk hhk (hset hkf).1) hs'
        . have : restI7 cls l (listed.setIfInBounds i true)=restI7 cls l listed:=by
           unfold restI7
           apply List.filter_congr
           intro p hp
           have:=(List.mem_filter.1 hp).2
           rw [set_getD hlt,if_neg]
           rintro e
           rw [e,hci] at this; cases this
          rw [this]; exact hK
        . rw [lk_put]
          split
          . rename_i hds
            exact (hx s hds).symm
          . rename_i hds
            refine hlk s fun k ok hk hhk hkf => ?_
            by_cases e : k=i
            . subst e; rw [hoi] at hk; cases hk; exact hds
            . exact hs2 k ok hk hhk (by rw [set_getD hlt,if_neg e]; exact hkf)
       split
       . rename_i hw; rw [if_pos hw] at hst; exact .inl hst
       . rename_i hw; rw [if_neg hw] at hst; exact hst

theorem wp_drawn7 {id : Nat} {cls : List Bool} {l : List Oper} {K : St->Prop} {Q : Exit->Act->World->Prop} {st : St} {a : Act} {w : World} (hm : P.follows .mixedOrders=true) (hc : ok7 cls l=true)
 (hQ : ∀ st a w,Sim Z N B M w0 st a w->K st->Q .normal a w) (hs : Sim Z N B M w0 st a w)
 (hq : headA P N l ((hs7 cls l).map (·.1)) st fun st' => tail7 P N l (hs7 cls l) (ts7 cls l) st' K) :
 SW P (Code.region id l.toArray true) Q a w:=by
 have hC:=ok7_spec hc
 obtain ⟨Sn,hK,ho,hlk,hY⟩:=alive_of hC (List.Sublist.refl _) hq
 show wpAny P .any l.toArray Q l.toArray.size (Array.replicate l.toArray.size false) a { w with drawn:=w.drawn + 1 }
 have hfalse : ∀ k,(Array.replicate l.length false).getD k false=false:=fun k => by
  rcases Nat.lt_or_ge k l.length with h | h
  . simp [h]
  . simp [h]
 have hmem : ∀ k o,l[k]? = some o->cls.getD k false=true->o ∈ (hs7 cls l).map (·.1):=fun k o hk hk2 => List.mem_map.2 ⟨(o,k),List.mem_filter.2 ⟨List.mem_iff_getElem?.2 ⟨k,by simp [List.getElem?_zipIdx,hk]⟩,hk2⟩,rfl⟩
 have:=any7 (P:=P) hC hQ l.length (Array.replicate l.length false) st Sn a { w with drawn:=w.drawn + 1 } (by simp) (fun k o _ hk => by rw [hfalse k] at hk; cases hk)
  (by
   have : (List.range l.length).countP (fun k => !(Array.replicate l.length false).getD k false)=(List.range l.length).length:=by
    rw [List.countP_eq_length]; intro k _; rw [hfalse k]; rfl
   rw [this]; simp)
  (by
   have : restI7 cls l (Array.replicate l.length false)=ts7 cls l:=by
    unfold restI7
    rw [List.filter_eq_self]; intro p _; rw [hfalse]; rfl
   rw [this]; exact hK) ho.symm (fun s hs' => (hlk s fun o ho' hd => by
    obtain ⟨p,hp,e⟩:=List.mem_map.1 ho'
    have a1:=List.mem_filter.1 hp
    exact hs' p.2 o (by rw [← e]; exact zip_sub (cls:=cls) p a1.1) a1.2 (hfalse _) hd).symm)
  (fun k o hk hk2 _ => hY o (hmem k o hk hk2))
  (by obtain ⟨β,φ,hB⟩:=hs; exact ⟨β,φ,hB.drawn⟩)
 simpa using this
end
end Abs
