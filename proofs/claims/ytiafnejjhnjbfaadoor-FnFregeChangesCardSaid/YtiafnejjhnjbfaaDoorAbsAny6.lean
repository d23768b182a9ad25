/- A region that draws its order, at whose head several things are laid (variables, rows by their length, appends to nothing) while other operations look and lay nothing that has a name; what follows stands in the text's order. No condition but the region's own check. -/
import Derived.Test.YtiafnejjhnjbfaaDoorAbsAny5
set_option linter.all false
namespace Abs
open Go Go.RowKit

def isN (o : Oper) : Bool :=
 match o.op with
 | .alloc _ => true
 | .makeSlice .. => true
 | .call c => match c.callee with
   | .builtin .append => true
   | _ => false
 | _ => false
def isL6 (o : Oper) : Bool :=
 match o.op with
 | .call c => match c.callee with
   | .builtin .len => true
   | _ => false
 | _ => false
def isQ6 (o : Oper) : Bool:=isQ4 o || isL6 o || match o.op with
 | .nilCheck _ => true
 | _ => false
def isKd (Ds : List Nat) (o : Oper) : Bool :=
 match o.op with
 | .assign (.tmp s) => Ds.contains s && o.guard.isNone && o.dst.isSome
 | _ => false
def layN (d : Nat) (x : AV) (ob : Option AO) (st : St) : St :=
 match ob with
 | some ob => newSt d x ob st
 | none => st.put (some d) x
def layD (st : St) (o : Oper) : Prop :=
 match o.op with
 | .call c => match c.args.toList with
   | [s,x] => noRoomS st s=true∧isDD (ev st x)
   | _ => False
 | _ => True
def laysD (st : St) : List Oper->Prop
 | [] => True
 | o :: r => layD st o∧laysD st r
theorem laysD_mem {st : St} : ∀ {l : List Oper},laysD st l->∀ o ∈ l,layD st o
 | [],_,_,h => by cases h
 | o :: r, h, o', ho' => by
   rcases List.mem_cons.1 ho' with e | e
   . rw [e]; exact h.1
   . exact laysD_mem h.2 o' e

section
variable {P : Program} {Z : Nat->Prop} {N B : Nat} {M : Nat->Prop} {w0 : World}

theorem hop_extra6 {st st' : St} {o : Oper} {d : Nat} {K : AV->Prop} (hq : isQ6 o=true) (ho : ∀ j,j ≠ d->lk j st'.o=lk j st.o) (h : ∀ x ∈ o.op.operands,ev st' x=ev st x)
 (hd : ∀ x ∈ o.op.operands,∀ v,ev st x=some v->v.has d=false) (hh : hopA P st o K) : hopA P st' o K:=by
 by_cases h1 : isQ4 o=true
 . exact hop_extra4 h1 ho h hd hh
 . obtain ⟨dst,op,ty,pos,after,guard⟩:=o
   cases op<;>simp only [isQ6,isQ4,isQ,isL6,Bool.or_false,Bool.false_or,Bool.or_true,Bool.true_or,Bool.false_eq_true,not_true_eq_false] at hq h1
   case nilCheck x =>
    simp only [Op.operands] at h
    unfold hopA at hh ⊢
    have e : qv P st' (.nilCheck x)=qv P st (.nilCheck x):=by simp only [qv,h x (by simp)]
    simp only [e] at hh ⊢
    exact hh
   case call c =>
    obtain ⟨ca,ar,ts⟩:=c
    cases ca<;>simp only [Bool.false_eq_true] at hq
    rename_i b
    cases b<;>simp only [Bool.false_eq_true] at hq
    simp only [Op.operands,Call.operands,Array.mem_append] at h hd
    have h' : ∀ x ∈ ar.toList,ev st' x=ev st x:=fun x hx => h x (.inr (by simpa using hx))
    have hd' : ∀ x ∈ ar.toList,∀ v,ev st x=some v->v.has d=false:=fun x hx => hd x (.inr (by simpa using hx))
    have e : qv P st' (.call ⟨.builtin .len,ar,ts⟩)=qv P st (.call ⟨.builtin .len,ar,ts⟩):=by
     simp only [qv]
     generalize ar.toList=al at h' hd' ⊢
     rcases al with _ | ⟨x,_ | _⟩<;>rcases ts.toList with _ | ⟨t,_ | _⟩<;>try rfl
     simp only [builtinV]
     rw [h' x (by simp)]
     cases hx : ev st x with
     | none => rfl
     | some v =>
       have hv:=hd' x (by simp) v hx
       have hlen : lenV st'.o v=lenV st.o v:=by
        cases v with
        | sl j =>
          have : j ≠ d:=by simpa [AV.has] using hv
          simp only [lenV,ho j this]
        | sf j k l =>
          have : j ≠ d:=by simpa [AV.has] using hv
          simp only [lenV,ho j this]
        | d y => cases y<;>rfl
        | _ => rfl
       cases v with
       | d y => cases y<;>simp only [hlen]
       | _ => simp only [hlen]
    unfold hopA at hh ⊢
    simp only [e] at hh ⊢
    cases hq : qv P st (.call ⟨.builtin .len,ar,ts⟩) with
    | some r => rw [hq] at hh; exact hh
    | none =>
      rw [hq] at hh
      simp only [hv] at hh
theorem hasL_map_d {d : Nat} : ∀ (cs : List D),AV.hasL d (cs.map AV.d)=false
 | [] => rfl
 | c :: r => by simp [AV.hasL,AV.has,hasL_map_d r]
theorem box_wipe {e : TypeId} {cells : List AV} {d : Nat} (h : AV.hasL d cells=false) : (AO.box e cells).wipe d=.box e cells:=by
 simp only [AO.wipe,AO.box.injEq,true_and]
 induction cells with
 | nil => rfl
 | cons x r ih =>
   simp only [AV.hasL,Bool.or_eq_false_iff] at h
   simp [h.1,ih h.2]
theorem boxO_wipe {t : TypeId} {z : D} {c ob} (h : boxO P t (nz z)=some (c,ob)) (d : Nat) : ob.wipe d=ob:=by
 unfold boxO at h
 split at h
 . obtain ⟨cs,hcs,he⟩:=Option.map_eq_some_iff.1 h
   cases he
   refine box_wipe ?_
   have hd : ∀ x : D,boxCells (.d x)=some cs->AV.hasL d cs=false:=fun x hx => by
    simp only [boxCells,Option.some.injEq] at hx
    subst hx; exact hasL_map_d _
   cases z<;>first | exact hd _ hcs | skip
   rename_i es
   cases es with
   | nil => simp only [nz,boxCells,Option.some.injEq] at hcs; subst hcs; rfl
   | cons x r => exact hd _ hcs
 . split at h
   . split at h
     . cases h
     . cases h; rfl
   . cases h

theorem lay_one {l : List Oper} {st : St} {o : Oper} {d : Nat} {K : St->Prop} (hN : isN o=true) (hg : o.guard=none) (hd : o.dst=some d) (hl : layD st o) (hq : stepA P N l st o K) :
 ∃ x ob,K (layN d x ob st)∧(∀ st' K',(∀ s ∈ looks l o,lk s st'.s=lk s st.s)->(K' (layN d x ob st') : Prop)->stepA P N l st' o K')∧(∀ d',d' ≠ d->x.has d'=false)∧∀ ob',ob=some ob'->∀ d',ob'.wipe d'=ob':=by
 obtain ⟨dst,op,ty,pos,after,guard⟩:=o
 simp only at hg hd
 subst hg hd
 cases op<;>simp only [isN,Bool.false_eq_true] at hN
 case alloc t =>
  have hstep : ∀ st K,stepA P N l st ⟨some d,.alloc t,ty,pos,after,none⟩ K=onS3 (zeroD P t) (fun z => boxO P t (nz z)) (fun c ob => c∧d < N∧K (newSt d (.p d 0) ob st)):=fun st K => by
   simp only [stepA,guardA,opA,nilA,qv,lv,onS3]
   cases zeroD P t with
   | none => rfl
   | some z =>
     simp only
     cases boxO P t (nz z) with
     | none => rfl
     | some r => rfl
  rw [hstep] at hq
  obtain ⟨z,c,ob,hz,hb,hcc,hdN,hK⟩:=onS3_spec hq
  refine ⟨.p d 0,some ob,hK,fun st' K' _ hk => ?_,fun d' hne => by simpa [AV.has] using fun e => hne e.symm,fun ob' e d' => by cases e; exact boxO_wipe hb d'⟩
  rw [hstep]
  exact onS3_intro hz hb ⟨hcc,hdN,hk⟩
 case makeSlice t x y =>
  rw [mk_step] at hq
  have hev : ∀ {st'},(∀ s ∈ looks l ⟨some d,.makeSlice t x y,ty,pos,after,none⟩,lk s st'.s=lk s st.s)->ev st' x=ev st x∧ev st' y=ev st y:=fun h => by
   have:=looks_ev (o:=⟨some d,.makeSlice t x y,ty,pos,after,none⟩) h
   exact ⟨this x (by simp [Op.operands]),this y (by simp [Op.operands])⟩
  have hone : ∃ c e k es,(∀ g',onM P t (ev st x) (ev st y) g'↔g' c (.arr e k es))∧(c∧d < N∧K (newSt d (.sl d) (.arr e k es) st)):=by
   unfold onM at hq ⊢
   split at hq
   . split at hq
     . split at hq
       . exact ⟨_,_,_,_,fun g' => Iff.rfl,hq⟩
       . exact hq.elim
     . exact hq.elim
   . exact hq.elim
  obtain ⟨c,e,k,es,h1,hcc,hdN,hK⟩:=hone
  refine ⟨.sl d,some (.arr e k es),hK,fun st' K' hlk hk => ?_,fun d' hne => by simpa [AV.has] using fun e => hne e.symm,fun ob' e d' => by cases e; rfl⟩
  rw [mk_step,(hev hlk).1,(hev hlk).2]
  exact (h1 _).2 ⟨hcc,hdN,hk⟩
 case call c =>
  obtain ⟨ca,ar,ts⟩:=c
  cases ca<;>simp only [Bool.false_eq_true] at hN
  rename_i b
  cases b<;>simp only [Bool.false_eq_true] at hN
  have e1 : ∀ st K,stepA P N l st ⟨some d,.call ⟨.builtin .append,ar,ts⟩,ty,pos,after,none⟩ K=match appendA P st d ar.toList ts.toList with | some (cc,q) => cc∧d < N∧K q | none => False:=fun st K => by
   simp only [stepA,guardA]
   unfold opA
   simp only [nilA,qv,builtinV,lv]
   cases appendA P st d ar.toList ts.toList with
   | none => simp [callA]
   | some p => rfl
  simp only [layD] at hl
  have hev:=fun {st'} h => looks_ev (l:=l) (o:=⟨some d,.call ⟨.builtin .append,ar,ts⟩,ty,pos,after,none⟩) (st:=st) (st':=st') h
  split at hl
  . rename_i s x hargs
    have hs' : ∀ {st'},(∀ z ∈ looks l ⟨some d,.call ⟨.builtin .append,ar,ts⟩,ty,pos,after,none⟩,lk z st'.s=lk z st.s)->ev st' s=ev st s∧ev st' x=ev st x:=fun h =>
     ⟨hev h s (by simp only [Op.operands, Call.operands, Array.mem_append]; exact .inr (by rw [← Array.mem_toList_iff, hargs]; simp)),
      hev h x (by simp only [Op.operands,Call.operands,Array.mem_append]; exact .inr (by rw [← Array.mem_toList_iff,hargs]; simp))⟩
    obtain ⟨y,hy⟩:=isDD_spec hl.2
    rw [e1] at hq
    have hnr : ∀ {st' : St},ev st' s=ev st s->noRoomS st' s=true:=fun {st'} h => by
     have : noRoomS st' s=noRoomS st s:=by unfold noRoomS; split<;>simp only [h]
     rw [this]; exact hl.1
    -- what an append of data to nothing is
    have ha : ∀ st',noRoomS st' s=true->ev st' x=some (.d y)->appendA P st' d ar.toList ts.toList=match ts.toList with
     | [t, t'] => if t' ≠ t then none else match elemSl P t, y with
       | some e,.slice ys => append0 P st' s d e ys
       | _,_ => none
     | _ => none:=fun st' h1 h2 => by
     unfold appendA
     rw [hargs]
     rcases ts.toList with _ | ⟨t,_ | ⟨t',_ | _⟩⟩<;>try rfl
     simp only [h1,h2,if_true,appendM_noRoom h1]
     cases elemSl P t with
     | none => split<;>rfl
     | some e => cases y<;>rfl
    rw [ha st hl.1 hy] at hq
    rcases hts : ts.toList with _ | ⟨t,_ | ⟨t',_ | _⟩⟩<;>rw [hts] at hq<;>try exact hq.elim
    simp only at hq
    by_cases htt : t' ≠ t
    . rw [if_pos htt] at hq; exact hq.elim
    . rw [if_neg htt] at hq
      cases he : elemSl P t with
      | none => rw [he] at hq; exact hq.elim
      | some e =>
        cases y with
        | slice ys =>
          rw [he] at hq
          simp only at hq
          have hst : ∀ st' K',(∀ z ∈ looks l ⟨some d,.call ⟨.builtin .append,ar,ts⟩,ty,pos,after,none⟩,lk z st'.s=lk z st.s) ->
           (match append0 P st' s d e ys with | some (cc,q) => cc∧d < N∧K' q | none => False)->stepA P N l st' ⟨some d,.call ⟨.builtin .append,ar,ts⟩,ty,pos,after,none⟩ K':=fun st' K' h hk => by
           rw [e1,ha st' (hnr (hs' h).1) ((hs' h).2.trans hy),hts]
           simp only
           rw [if_neg htt,he]
           exact hk
          cases ys with
          | nil =>
            simp only [append0] at hq
            refine ⟨emptyAV (ev st s),none,hq.2.2,fun st' K' h hk => hst st' K' h ?_,fun d' _ => by unfold emptyAV; split<;>rfl,fun _ e => by cases e⟩
            simp only [append0]
            rw [(hs' h).1]
            exact ⟨hq.1,hq.2.1,hk⟩
          | cons z zs =>
            simp only [append0] at hq
            refine ⟨.sl d,some (.arr e (P.cellsOf e) (z :: zs)),hq.2.2,fun st' K' h hk => hst st' K' h ?_,fun d' hne => by simpa [AV.has] using fun e => hne e.symm,fun ob' e d' => by cases e; rfl⟩
            simp only [append0]
            exact ⟨hq.1,hq.2.1,hk⟩
        | _ => rw [he] at hq; exact hq.elim
  . exact hl.elim

structure St6 (l : List Oper) (q : Nat) (V : Nat->AV) (OB : Nat->Option AO) (st0 : St) (L : Nat->Bool) (E : St) : Prop where
 sin : ∀ k o s,k < q->L k=true->l[k]? = some o->o.dst=some s->lk s E.s=some (V k)
 sout : ∀ s,(∀ k o,k < q->L k=true->l[k]? = some o->o.dst ≠ some s)->lk s E.s=lk s st0.s
 oin : ∀ k o j ob,k < q->L k=true->l[k]? = some o->o.dst=some j->OB k=some ob->lk j E.o=some ob
 oout : ∀ j,(∀ k o,k < q->L k=true->l[k]? = some o->o.dst=some j->OB k=none)->lk j E.o=lk j st0.o
theorem St6.same {l : List Oper} {q : Nat} {V V' : Nat->AV} {OB OB' : Nat->Option AO} {st0 : St} {L L' : Nat->Bool} {E E' : St} (h : St6 l q V OB st0 L E) (h' : St6 l q V' OB' st0 L' E')
 (hL : ∀ k,k < q->L' k=L k) (hV : ∀ k,k < q->L k=true->V' k=V k∧OB' k=OB k) : (∀ s,lk s E'.s=lk s E.s)∧∀ j,lk j E'.o=lk j E.o:=by
 constructor
 . intro s
   by_cases hw : ∃ k o,k < q∧L k=true∧l[k]? = some o∧o.dst=some s
   . obtain ⟨k,o,h1,h2,h3,h4⟩:=hw
     rw [h.sin k o s h1 h2 h3 h4,h'.sin k o s h1 (by rw [hL k h1]; exact h2) h3 h4,(hV k h1 h2).1]
   . rw [h.sout s fun k o h1 h2 h3 h4 => hw ⟨k,o,h1,h2,h3,h4⟩,h'.sout s fun k o h1 h2 h3 h4 => hw ⟨k,o,h1,by rw [hL k h1] at h2; exact h2,h3,h4⟩]
 . intro j
   by_cases hw : ∃ k o ob,k < q∧L k=true∧l[k]? = some o∧o.dst=some j∧OB k=some ob
   . obtain ⟨k,o,ob,h1,h2,h3,h4,h5⟩:=hw
     rw [h.oin k o j ob h1 h2 h3 h4 h5,h'.oin k o j ob h1 (by rw [hL k h1]; exact h2) h3 h4 (by rw [(hV k h1 h2).2]; exact h5)]
   . have no : ∀ k o,k < q->L k=true->l[k]? = some o->o.dst=some j->OB k=none:=fun k o h1 h2 h3 h4 => by
      cases h5 : OB k with
      | none => rfl
      | some ob => exact absurd ⟨k,o,ob,h1,h2,h3,h4,h5⟩ hw
     rw [h.oout j no,h'.oout j fun k o h1 h2 h3 h4 => by
      rw [hL k h1] at h2
      rw [(hV k h1 h2).2]; exact no k o h1 h2 h3 h4]
theorem lk_wipeO_eq {i j : Nat} (h : i ≠ j) (o : List (Nat × AO)) : lk i (wipeO j o)=(lk i o).map (AO.wipe j):=by
 cases ho : lk i o with
 | some x => rw [lk_wipeO_of h ho]; rfl
 | none =>
   cases hx : lk i (wipeO j o) with
   | none => rfl
   | some y =>
     obtain ⟨_,o',h1,_⟩:=lk_wipeO hx
     rw [ho] at h1; cases h1

def nK (l : List Oper) (k : Nat) : Bool:=match l[k]? with | some o => isN o | none => false
theorem nK_eq {l : List Oper} {k : Nat} {o : Oper} (h : l[k]? = some o) : nK l k=isN o:=by unfold nK; rw [h]
def dstsN : List Oper->List Nat
 | [] => []
 | o :: r => if isN o then (match o.dst with | some d => d :: dstsN r | none => dstsN r) else dstsN r
def kK (l : List Oper) (q k : Nat) : Bool:=match l[k]? with | some o => isKd (dstsN (l.take q)) o | none => false
theorem kK_eq {l : List Oper} {q k : Nat} {o : Oper} (h : l[k]? = some o) : kK l q k=isKd (dstsN (l.take q)) o:=by unfold kK; rw [h]
structure Checked6 (l : List Oper) (q : Nat) : Prop where
 hC : Checked' l q
 blind : ∀ k o m om d,k < q->m < q->l[k]? = some o->l[m]? = some om->kK l q k=false->(isN om=true∨kK l q m=true)->om.dst=some d->d ∉ looks l o
 dst : ∀ k o,k < q->l[k]? = some o->∃ d,o.dst=some d
 quiet : ∀ k o,k < q->l[k]? = some o->isN o=false->kK l q k=false->(isQ6 o || isC o)=true
 guard : ∀ k o,k < q->l[k]? = some o->isN o=true∨kK l q k=true->o.guard=none
 later : ∀ k o m om s,k < q->m < q->k < m->l[k]? = some o->l[m]? = some om->isN o=true->om.dst=some s->s ∉ looks l o
 carry : ∀ (k : Nat) (o : Oper),k < q->l[k]? = some o->kK l q k=true->isN o=false∧∃ (s m : Nat) (om : Oper),o.op=.assign (.tmp s)∧m < k∧l[m]? = some om∧isN om=true∧om.dst=some s
theorem Checked6.notK {l : List Oper} {q : Nat} (hX : Checked6 l q) {k : Nat} {o : Oper} (hk : k < q) (ho : l[k]? = some o) (hN : isN o=true) : kK l q k=false:=by
 cases h : kK l q k with
 | false => rfl
 | true => have:=(hX.carry k o hk ho h).1; rw [hN] at this; cases this

theorem St6.quiet {l : List Oper} {q : Nat} (hX : Checked6 l q) {V : Nat->AV} {OB : Nat->Option AO} {st0 : St} {L L' : Nat->Bool} {E : St} (h : St6 l q V OB st0 L E) {i : Nat} {o : Oper} {d : Nat} (hi : i < q) (ho : l[i]? = some o) (hd : o.dst=some d)
 (hL : ∀ k,k < q->L' k=(L k || decide (k=i))) (hOB : OB i=none) : St6 l q V OB st0 L' (E.put (some d) (V i)):=by
 have hLi : L' i=true:=by rw [hL i hi]; simp
 have hdd : ∀ k ok s,k < q->l[k]? = some ok->ok.dst=some s->k ≠ i->s ≠ d:=fun k ok s hk hok hs hne e => by
  subst e; exact (hX.hC.apart i k o ok hi hk (Ne.symm hne) ho hok s hs).1 hd
 refine ⟨fun k ok s hk hLk hok hs => ?_,fun s hs => ?_,fun k ok j ob hk hLk hok hj hob => ?_,fun j hj => ?_⟩
 . rw [lk_put]
   by_cases e : k=i
   . subst e; rw [ho] at hok; cases hok; rw [hd] at hs; rw [if_pos hs]
   . rw [if_neg (by rw [Option.some.injEq]; exact fun e2 => hdd k ok s hk hok hs e e2.symm)]
     rw [hL k hk,decide_eq_false e,Bool.or_false] at hLk
     exact h.sin k ok s hk hLk hok hs
 . rw [lk_put,if_neg (fun e => hs i o hi hLi ho (hd.trans e))]
   exact h.sout s fun k ok hk hLk hok => hs k ok hk (by rw [hL k hk,hLk]; rfl) hok
 . have e : k ≠ i:=by rintro rfl; rw [hOB] at hob; cases hob
   rw [hL k hk,decide_eq_false e,Bool.or_false] at hLk
   exact h.oin k ok j ob hk hLk hok hj hob
 . exact h.oout j fun k ok hk hLk hok hkj => hj k ok hk (by rw [hL k hk,hLk]; rfl) hok hkj
theorem St6.lay {l : List Oper} {q : Nat} (hX : Checked6 l q) {V : Nat->AV} {OB : Nat->Option AO} {st0 : St} {L L' : Nat->Bool} {E : St} (h : St6 l q V OB st0 L E) {i : Nat} {o : Oper} {d : Nat} (hi : i < q) (ho : l[i]? = some o) (hd : o.dst=some d)
 (hL : ∀ k,k < q->L' k=(L k || decide (k=i))) (hn0 : noD d st0) (hV : ∀ k,k < q->L k=true->k ≠ i->(V k).has d=false) (hB : ∀ k ob,k < q->OB k=some ob->ob.wipe d=ob) (hLi0 : L i=false) :
 St6 l q V OB st0 L' (layN d (V i) (OB i) E):=by
 cases hob : OB i with
 | none => exact h.quiet hX hi ho hd hL hob
 | some ob =>
   have hLi : L' i=true:=by rw [hL i hi]; simp
   have hdd : ∀ k ok s,k < q->l[k]? = some ok->ok.dst=some s->k ≠ i->s ≠ d:=fun k ok s hk hok hs hne e => by
    subst e; exact (hX.hC.apart i k o ok hi hk (Ne.symm hne) ho hok s hs).1 hd
   have hEs : ∀ s,s ≠ d->lk s (newSt d (V i) ob E).s=lk s E.s:=fun s hsd => by
    unfold newSt
    simp only [lk_ins]
    rw [if_neg hsd,lk_wipeS_eq]
    cases hv : lk s E.s with
    | none => rfl
    | some v =>
      have : v.has d=false:=by
       by_cases hw : ∃ k ok,k < q∧L k=true∧l[k]? = some ok∧ok.dst=some s
       . obtain ⟨k,ok,h1,h2,h3,h4⟩:=hw
         rw [h.sin k ok s h1 h2 h3 h4] at hv
         cases hv
         exact hV k h1 h2 (by rintro rfl; rw [hLi0] at h2; cases h2)
       . rw [h.sout s fun k ok h1 h2 h3 h4 => hw ⟨k,ok,h1,h2,h3,h4⟩] at hv
         exact noD_s hn0 hv
      simp [this]
   have hEo : ∀ j,j ≠ d->lk j (newSt d (V i) ob E).o=lk j E.o:=fun j hjd => by
    unfold newSt
    simp only [lk_ins]
    rw [if_neg hjd,lk_wipeO_eq hjd]
    cases hv : lk j E.o with
    | none => rfl
    | some y =>
      simp only [Option.map_some,Option.some.injEq]
      by_cases hw : ∃ k ok ob,k < q∧L k=true∧l[k]? = some ok∧ok.dst=some j∧OB k=some ob
      . obtain ⟨k,ok,ob,h1,h2,h3,h4,h5⟩:=hw
        rw [h.oin k ok j ob h1 h2 h3 h4 h5] at hv
        cases hv
        exact hB k _ h1 h5
      . rw [h.oout j fun k ok h1 h2 h3 h4 => by
         cases h5 : OB k with
         | none => rfl
         | some ob => exact absurd ⟨k,ok,ob,h1,h2,h3,h4,h5⟩ hw] at hv
        have h6:=lk_wipeO_eq hjd st0.o
        rw [hn0.2,hv] at h6
        simpa using h6.symm
   refine ⟨fun k ok s hk hLk hok hs => ?_,fun s hs => ?_,fun k ok j ob' hk hLk hok hj hob' => ?_,fun j hj => ?_⟩
   . by_cases e : k=i
     . subst e; rw [ho] at hok; cases hok; rw [hd] at hs; cases hs
       simp [layN,newSt,lk_ins]
     . rw [hL k hk,decide_eq_false e,Bool.or_false] at hLk
       exact (hEs s (hdd k ok s hk hok hs e)).trans (h.sin k ok s hk hLk hok hs)
   . exact (hEs s (fun e => hs i o hi hLi ho (hd.trans (by rw [e])))).trans (h.sout s fun k ok hk hLk hok => hs k ok hk (by rw [hL k hk,hLk]; rfl) hok)
   . by_cases e : k=i
     . subst e; rw [ho] at hok; cases hok; rw [hd] at hj; cases hj; rw [hob] at hob'; cases hob'
       simp [layN,newSt,lk_ins]
     . rw [hL k hk,decide_eq_false e,Bool.or_false] at hLk
       exact (hEo j (hdd k ok j hk hok hj e)).trans (h.oin k ok j ob' hk hLk hok hj hob')
   . refine (hEo j fun e => ?_).trans (h.oout j fun k ok hk hLk hok hkj => hj k ok hk (by rw [hL k hk,hLk]; rfl) hok hkj)
     have:=hj i o hi hLi ho (hd.trans (by rw [e]))
     rw [hob] at this; cases this

def addK (l : List Oper) (E : St) (o0 : List (Nat × AO)) : Nat->List (Nat × AO)
 | 0 => o0
 | k + 1 => if nK l k then match (l[k]?).bind (·.dst) with
  | some d => match lk d E.o with
    | some ob => ins d ob (addK l E o0 k)
    | none => addK l E o0 k
  | none => addK l E o0 k
   else addK l E o0 k
theorem addK_lk {l : List Oper} {E : St} {o0 : List (Nat × AO)} {q : Nat} (h0 : ∀ k o d,k < q->l[k]? = some o->isN o=true->o.dst=some d->lk d o0=none) :
 ∀ k,k<=q->∀ j,(lk j (addK l E o0 k)=lk j E.o∧∃ m o,m < k∧l[m]? = some o∧isN o=true∧o.dst=some j)∨(lk j (addK l E o0 k)=lk j o0∧∀ m o,m < k->l[m]? = some o->isN o=true->o.dst ≠ some j)
 | 0,_,j => .inr ⟨rfl,fun m _ h => by omega⟩
 | k + 1, hk, j => by
   have ih:=addK_lk (E:=E) h0 k (by omega) j
   -- operation k does not lay j
   have keep : lk j (addK l E o0 (k + 1))=lk j (addK l E o0 k)->(∀ o,l[k]? = some o->isN o=true->o.dst ≠ some j)->_:=fun he hno => show (lk j (addK l E o0 (k + 1))=lk j E.o∧∃ m o,m < k + 1∧l[m]? = some o∧isN o=true∧o.dst=some j)∨(lk j (addK l E o0 (k + 1))=lk j o0∧∀ m o,m < k + 1->l[m]? = some o->isN o=true->o.dst ≠ some j) by
    rw [he]
    rcases ih with ⟨h1,m,o,h2,h3⟩ | ⟨h1,h2⟩
    . exact .inl ⟨h1,m,o,by omega,h3⟩
    . refine .inr ⟨h1,fun m o hm ho hN => ?_⟩
      by_cases e : m=k
      . subst e; exact hno o ho hN
      . exact h2 m o (by omega) ho hN
   cases ho : l[k]? with
   | none => exact keep (by simp [addK,nK,ho]) fun o h => by rw [ho] at h; cases h
   | some o =>
     cases hN : isN o with
     | false => exact keep (by simp [addK,nK,ho,hN]) fun o' h h' => by rw [ho] at h; cases h; rw [hN] at h'; cases h'
     | true =>
       cases hd : o.dst with
       | none => exact keep (by simp [addK,nK,ho,hN,hd]) fun o' h _ => by rw [ho] at h; cases h; rw [hd]; simp
       | some d =>
         by_cases e : j=d
         . subst e
           refine .inl ⟨?_,k,o,by omega,ho,hN,hd⟩
           cases hE : lk j E.o with
           | some ob => simp [addK,nK,ho,hN,hd,hE,lk_ins]
           | none =>
             have e1 : lk j (addK l E o0 (k + 1))=lk j (addK l E o0 k):=by simp [addK,nK,ho,hN,hd,hE]
             rw [e1]
             rcases ih with ⟨h1,_⟩ | ⟨h1,_⟩
             . rw [h1,hE]
             . rw [h1]; exact h0 k o j (by omega) ho hN hd
         . refine keep ?_ fun o' h _ => by rw [ho] at h; cases h; rw [hd]; simp; exact fun e' => e e'.symm
           cases hE : lk d E.o with
           | some ob => simp [addK,nK,ho,hN,hd,hE,lk_ins,e]
           | none => simp [addK,nK,ho,hN,hd,hE]
theorem hop_many {l : List Oper} {q : Nat} (hX : Checked6 l q) {V : Nat->AV} {OB : Nat->Option AO} {st0 : St} {L : Nat->Bool} {E : St} (hE : St6 l q V OB st0 L E)
 (hn0 : ∀ k o d,k < q->l[k]? = some o->isN o=true->o.dst=some d->noD d st0) (hBw : ∀ k ob d,k < q->OB k=some ob->ob.wipe d=ob) (hBn : ∀ k,k < q->nK l k=false->OB k=none)
 {i : Nat} {o : Oper} (hq : (isQ6 o || isC o)=true) (hv : ∀ k ok d,k < q->l[k]? = some ok->isN ok=true->ok.dst=some d->∀ x ∈ o.op.operands,∀ v,ev E x=some v->v.has d=false) {K : AV->Prop} (hh : hopA P ⟨E.s,st0.o⟩ o K) :
 ∀ k,k<=q->hopA P ⟨E.s,addK l E st0.o k⟩ o K
 | 0,_ => hh
 | k + 1, hk => by
   have ih:=hop_many hX hE hn0 hBw hBn (i:=i) hq hv hh k (by omega)
   have h0 : ∀ k o d,k < q->l[k]? = some o->isN o=true->o.dst=some d->lk d st0.o=none:=fun k o d h1 h2 h3 h4 => by
    cases h5 : lk d st0.o with
    | none => rfl
    | some ob => exact absurd rfl (noD_o (hn0 k o d h1 h2 h3 h4) h5)
   cases ho : l[k]? with
   | none => have : addK l E st0.o (k + 1) = addK l E st0.o k := by simp [addK, nK, ho]
             rw [this]; exact ih
   | some ok =>
     cases hN : isN ok with
     | false => have : addK l E st0.o (k + 1) = addK l E st0.o k := by simp [addK, nK, ho, hN]
                rw [this]; exact ih
     | true =>
       obtain ⟨d,hd⟩:=hX.dst k ok (by omega) ho
       cases hEd : lk d E.o with
       | none => have : addK l E st0.o (k + 1) = addK l E st0.o k := by simp [addK, nK, ho, hN, hd, hEd]
                 rw [this]; exact ih
       | some ob =>
         have e : addK l E st0.o (k + 1)=ins d ob (addK l E st0.o k):=by simp [addK,nK,ho,hN,hd,hEd]
         rw [e]
         have hdo : ∀ j,j ≠ d->lk j (St.mk E.s (ins d ob (addK l E st0.o k))).o=lk j (St.mk E.s (addK l E st0.o k)).o:=fun j hj => by simp only [lk_ins]; rw [if_neg hj]
         have hdv : ∀ x ∈ o.op.operands,∀ v,ev (St.mk E.s (addK l E st0.o k)) x=some v->v.has d=false:=fun x hx v hxv => hv k ok d (by omega) ho hN hd x hx v (by cases x<;>exact hxv)
         have hevs : ∀ x ∈ o.op.operands,ev (St.mk E.s (ins d ob (addK l E st0.o k))) x=ev (St.mk E.s (addK l E st0.o k)) x:=fun x _ => by cases x<;>rfl
         rcases Bool.or_eq_true_iff.1 hq with hq | hq
         . exact hop_extra6 hq (d:=d) hdo hevs hdv ih
         . refine hop_call hq (d:=d) hdo (fun j ob' hj => ?_) hevs hdv ih
           have hj' : lk j (addK l E st0.o k)=some ob':=hj
           rcases addK_lk (E:=E) h0 k (by omega) j with ⟨h1,m,om,h2,h3,h4,h5⟩ | ⟨h1,h2⟩
           . rw [h1] at hj'
             refine ⟨fun e2 => ?_,?_⟩
             . subst e2
               exact (hX.hC.apart k m ok om (by omega) (by omega) (by omega) ho h3 j h5).1 hd
             . by_cases hw : ∃ ob2,L m=true∧OB m=some ob2
               . obtain ⟨ob2,h6,h7⟩:=hw
                 rw [hE.oin m om j ob2 (by omega) h6 h3 h5 h7] at hj'
                 cases hj'
                 exact (hBw m ob' d (by omega) h7).symm
               . exfalso
                 rw [hE.oout j fun n on h8 h9 h10 h11 => by
                  by_cases e3 : n=m
                  . subst e3
                    cases h12 : OB n with
                    | none => rfl
                    | some ob2 => exact absurd ⟨ob2,h9,h12⟩ hw
                  . exact absurd h11 (hX.hC.apart n m on om h8 (by omega) e3 h10 h3 j h5).1] at hj'
                 rw [h0 m om j (by omega) h3 h4 h5] at hj'; cases hj'
           . rw [h1] at hj'
             refine ⟨noD_o (hn0 k ok d (by omega) ho hN hd) hj',?_⟩
             have h6 : lk j (wipeO d st0.o)=some ob':=by rw [(hn0 k ok d (by omega) ho hN hd).2]; exact hj'
             obtain ⟨_,o',h7,h8⟩:=lk_wipeO h6
             rw [hj'] at h7; cases h7; exact h8

theorem any6 {l : List Oper} {q : Nat} (hX : Checked6 l q) {K : St->Prop} {Q : Exit->Act->World->Prop} (hQ : ∀ st a w,Sim Z N B M w0 st a w->K st->Q .normal a w)
 {st0 : St} {V : Nat->AV} {OB : Nat->Option AO} {S : Nat->St} {F : St} (hS0 : S 0=st0) (hn0 : ∀ k o d,k < q->l[k]? = some o->isN o=true->o.dst=some d->noD d st0)
 (hVd : ∀ k m om d,k < q->kK l q k=false->m < q->k ≠ m->l[m]? = some om->isN om=true->om.dst=some d->(V k).has d=false)
 (hBw : ∀ k ob d,k < q->OB k=some ob->ob.wipe d=ob) (hBn : ∀ k,k < q->nK l k=false->OB k=none)
 (hVK : ∀ (k : Nat) (o : Oper) (s m : Nat) (om : Oper),k < q->l[k]? = some o->kK l q k=true->o.op=.assign (.tmp s)->m < q->l[m]? = some om->om.dst=some s->V k=V m∧dstB N o.dst)
 (hY : ∀ k o,k < q->l[k]? = some o->isN o=false->kK l q k=false->Yl P N l (S k) o (V k)∧S (k + 1)=(S k).put o.dst (V k)) (hYn : ∀ k o,k < q->l[k]? = some o->isN o=true∨kK l q k=true->S (k + 1)=S k)
 (hA : ∀ k o d,k < q->l[k]? = some o->isN o=true->o.dst=some d->∀ st K,(∀ s ∈ looks l o,lk s st.s=lk s (S q).s)->(K (layN d (V k) (OB k) st) : Prop)->stepA P N l st o K)
 (hF : St6 l q V OB st0 (fun _ => true) F) (hK : opsA P N l (l.drop q) F K) :
 ∀ (fuel : Nat) (listed : Array Bool) (E : St) (a : Act) (w : World),listed.size=l.length->Closed l listed->(∀ t,q<=t->t < l.length->listed.getD t false=false) ->
  fuel=(List.range l.length).countP (fun k => !listed.getD k false)->St6 l q V OB st0 (fun k => listed.getD k false) E->Sim Z N B M w0 E a w->wpAny P .any l.toArray Q fuel listed a w:=by
 have hC:=hX.hC
 have hSk : ∀ k,k<=q->(S k).o=st0.o∧St6 l q V OB st0 (fun m => decide (m < k) && (!nK l m && !kK l q m)) (S k):=by
  intro k
  induction k with
  | zero => intro _; rw [hS0]; exact ⟨rfl,⟨fun _ _ _ _ h => by simp at h,fun _ _ => rfl,fun _ _ _ _ _ h => by simp at h,fun _ _ => rfl⟩⟩
  | succ k ih =>
    intro hk
    obtain ⟨h1,h2⟩:=ih (by omega)
    obtain ⟨o,ho⟩ : ∃ o,l[k]? = some o:=⟨l[k]'(by have:=hC.le; omega),by simp [show k < l.length by have:=hC.le; omega]⟩
    by_cases hN : isN o=true∨kK l q k=true
    . rw [hYn k o (by omega) ho hN]
      have : (fun m => decide (m < k + 1) && (!nK l m && !kK l q m))=(fun m => decide (m < k) && (!nK l m && !kK l q m)):=by
       funext m
       by_cases e : m=k
       . subst e; rw [nK_eq ho]
         rcases hN with h | h<;>simp [h]
       . have : decide (m < k + 1)=decide (m < k):=decide_eq_decide.2 (by omega)
         rw [this]
      rw [this]; exact ⟨h1,h2⟩
    . have hN1 : isN o=false:=by simpa using fun h => hN (.inl h)
      have hN2 : kK l q k=false:=by simpa using fun h => hN (.inr h)
      obtain ⟨d,hd⟩:=hX.dst k o (by omega) ho
      obtain ⟨_,h3⟩:=hY k o (by omega) ho hN1 hN2
      rw [h3]
      refine ⟨by rw [hd]; exact h1,?_⟩
      rw [hd]
      refine h2.quiet hX (by omega) ho hd (fun m hm => ?_) (hBn k (by omega) (by rw [nK_eq ho]; exact hN1))
      by_cases e : m=k
      . subst e; rw [nK_eq ho,hN1,hN2]; simp
      . have : decide (m < k + 1)=decide (m < k):=decide_eq_decide.2 (by omega)
        rw [this,decide_eq_false e,Bool.or_false]
 have final : ∀ (fuel : Nat) (listed : Array Bool) (E : St) (a : Act) (w : World),listed.size=l.length->(∀ t,q<=t->t < l.length->listed.getD t false=false) ->
  fuel=(List.range l.length).countP (fun k => !listed.getD k false)->St6 l q V OB st0 (fun k => listed.getD k false) E->Sim Z N B M w0 E a w->(∀ k,k < q->listed.getD k false=true)->wpAny P .any l.toArray Q fuel listed a w:=by
  intro fuel listed E a w hsz htail hcnt hE hs hallh
  have hl : ∀ k,k < l.length->listed.getD k false=decide (k < q):=fun k hk => by
   by_cases h : k < q
   . rw [hallh k h]; simp [h]
   . rw [htail k (by omega) hk]; simp [h]
  have hlen1 : (l.drop q).length=fuel:=by
   rw [hcnt,List.length_drop]
   have e1 : (List.range l.length).countP (fun k => !listed.getD k false)=(List.range l.length).countP (fun k => decide (q<=k)):=by
    apply List.countP_congr
    intro k hk
    rw [hl k (List.mem_range.1 hk)]
    simp
   obtain ⟨r,hr⟩ : ∃ r,l.length=q + r:=⟨l.length - q,by have:=hC.le; omega⟩
   rw [e1,hr,List.range_add,List.countP_append]
   have e2 : (List.range q).countP (fun k => decide (q<=k))=0:=by
    rw [List.countP_eq_zero]; intro k hk; have:=List.mem_range.1 hk; simp; omega
   have e3 : ((List.range r).map (q + ·)).countP (fun k => decide (q<=k))=((List.range r).map (q + ·)).length:=by
    rw [List.countP_eq_length]; intro k hk
    obtain ⟨j,_,rfl⟩:=List.mem_map.1 hk
    simp
   rw [e2,e3,List.length_map,List.length_range]; omega
  rw [← hlen1]
  obtain ⟨e1,e2⟩:=hE.same hF (fun k hk => (hallh k hk).symm) (fun _ _ _ => ⟨rfl,rfl⟩)
  exact any_tail hC hQ (l.drop q) q listed F a w (Nat.le_refl _) rfl hsz hl (hs.congr2 e1 e2) hK
 intro fuel
 induction fuel with
 | zero =>
   intro listed E a w hsz hcl htail hcnt hE hs
   refine final 0 listed E a w hsz htail hcnt hE hs fun k hk => ?_
   have:=List.countP_eq_zero.1 hcnt.symm k (List.mem_range.2 (by have:=hC.le; omega))
   simpa using this
 | succ fuel ih =>
   intro listed E a w hsz hcl htail hcnt hE hs
   by_cases hallh : ∀ k,k < q->listed.getD k false=true
   . exact final _ listed E a w hsz htail hcnt hE hs hallh
   . refine ⟨fun h0 => ?_,fun i hi => ?_⟩
     . exfalso
       have hex : ∃ k,k < l.length∧listed.getD k false=false∧∀ m,m < k->listed.getD m false=true:=by
        have h1 : ∃ k,k < l.length∧listed.getD k false=false:=by
         refine Classical.byContradiction fun hno => hallh fun k hk => ?_
         cases hh : listed.getD k false with
         | true => rfl
         | false => exact absurd ⟨k,by have:=hC.le; omega,hh⟩ hno
        obtain ⟨k,hk⟩:=h1
        induction k using Nat.strongRecOn with
        | _ k ihk =>
          by_cases h2 : ∃ m,m < k∧listed.getD m false=false
          . obtain ⟨m,hm,hm2⟩:=h2
            exact ihk m hm ⟨by omega,hm2⟩
          . refine ⟨k,hk.1,hk.2,fun m hm => ?_⟩
            cases hh : listed.getD m false with
            | true => rfl
            | false => exact absurd ⟨m,hm,hh⟩ h2
       obtain ⟨k,hkl,hkf,hkm⟩:=hex
       have : k ∈ Region.ready .any l.toArray listed:=by
        rw [ready_iff]
        refine ⟨?_,l[k],by simp [hkl],fun e he hb => hkm _ (hC.back k l[k] (by simp [hkl]) e he hb)⟩
        have : listed.getD k true=listed.getD k false:=by simp [show k < listed.size by omega]
        rw [this]; exact hkf
       rw [h0] at this; cases this
     . obtain ⟨h1,o,hoi,h2⟩:=ready_iff.1 hi
       have hil:=(List.getElem?_eq_some_iff.1 hoi).1
       have hlt : i < listed.size:=by omega
       have hif : listed.getD i false=false:=by
        have : listed.getD i true=listed.getD i false:=by simp [hlt]
        rw [← this]; exact h1
       have hdep : ∀ {m},Dep l i m->listed.getD m false=true:=fun hd => hcl.ready hd fun o' ho' => by rw [hoi] at ho'; cases ho'; exact h2
       have hcount : fuel=(List.range l.length).countP (fun k => !(listed.setIfInBounds i true).getD k false):=by
        have hmem : i ∈ List.range l.length:=List.mem_range.2 hil
        have hgen : ∀ (r : List Nat),r.Nodup->i ∈ r->r.countP (fun k => !listed.getD k false)=r.countP (fun k => !(listed.setIfInBounds i true).getD k false) + 1:=by
         intro r
         induction r with
         | nil => intro _ h; cases h
         | cons x r ihr =>
           intro hnd hm
           rw [List.nodup_cons] at hnd
           by_cases hx : i=x
           . subst hx
             have hrest : r.countP (fun k => !listed.getD k false)=r.countP (fun k => !(listed.setIfInBounds i true).getD k false):=by
              apply List.countP_congr
              intro k hk
              rw [set_getD hlt,if_neg (show ¬ k=i from fun e => hnd.1 (by rw [← e]; exact hk))]
             rw [List.countP_cons,List.countP_cons,hrest,hif,set_getD hlt,if_pos rfl]
             simp
           . have hmr : i ∈ r:=by
              rcases List.mem_cons.1 hm with h | h
              . exact absurd h hx
              . exact h
             rw [List.countP_cons,List.countP_cons,ihr hnd.2 hmr,set_getD hlt,if_neg (Ne.symm hx)]
             omega
        have:=hgen _ List.nodup_range hmem
        omega
       have hin : i < q:=by
        rcases Nat.lt_or_ge i q with h | h
        . exact h
        . exfalso
          rcases Nat.eq_or_lt_of_le h with e | h'
          . subst e
            exact hallh fun k hk => hdep (hC.sink hil k hk)
          . have h1:=hdep (hC.chain i h' hil)
            rw [htail (i - 1) (by omega) (by omega)] at h1; cases h1
       obtain ⟨d,hd⟩:=hX.dst i o hin hoi
       unfold wpOp
       have ho' : (l.toArray)[i]? = some o:=by simpa using hoi
       rw [ho']
       simp only
       have hclS:=hcl.set hsz hi
       have htl : ∀ t,q<=t->t < l.length->(listed.setIfInBounds i true).getD t false=false:=fun t ht htl => by rw [set_getD hlt,if_neg (by omega)]; exact htail t ht htl
       have hL' : ∀ k,k < q->(fun k => (listed.setIfInBounds i true).getD k false) k=((fun k => listed.getD k false) k || decide (k=i)):=fun k _ => by
        simp only [set_getD hlt]
        by_cases e : k=i
        . subst e; simp
        . rw [if_neg e,decide_eq_false e,Bool.or_false]
       -- what a slot holds that the operation looks at
       have hsee : kK l q i=false->∀ k,k<=q->i<=k->(i < k->isN o=true)->(∀ m om s,i < m->m < k->l[m]? = some om->isN om=false->om.dst=some s->s ∉ looks l o)->∀ s ∈ looks l o,lk s E.s=lk s (S k).s:=fun hKi k hk hik hself hlate s hs' => by
        have hG:=(hSk k hk).2
        by_cases hw : ∃ m om,m < q∧l[m]? = some om∧om.dst=some s
        . obtain ⟨m,om,hmq,hom,hmd⟩:=hw
          have hmN : isN om=false:=by
           cases h5 : isN om with
           | false => rfl
           | true => exact absurd hs' (hX.blind i o m om s hin hmq hoi hom hKi (.inl h5) hmd)
          have hmK : kK l q m=false:=by
           cases h5 : kK l q m with
           | false => rfl
           | true => exact absurd hs' (hX.blind i o m om s hin hmq hoi hom hKi (.inr h5) hmd)
          have onlyG : (decide (m < k) && (!nK l m && !kK l q m))=false->lk s (S k).s=lk s st0.s:=fun hf => hG.sout s fun n on hn hL hon hnd => by
           by_cases e : n=m
           . subst e; rw [hf] at hL; cases hL
           . exact (hC.apart n m on om hn hmq e hon hom s hmd).1 hnd
          have onlyE : listed.getD m false=false->lk s E.s=lk s st0.s:=fun hf => hE.sout s fun n on hn hL hon hnd => by
           by_cases e : n=m
           . subst e; simp only [hf] at hL; cases hL
           . exact (hC.apart n m on om hn hmq e hon hom s hmd).1 hnd
          by_cases e : m=i
          . subst e
            have hk2 : ¬ m < k:=fun hk2 => by
             have:=hself hk2
             rw [hoi] at hom; cases hom; rw [hmN] at this; cases this
            rw [onlyE hif,onlyG (by simp [hk2])]
          . have hcl':=(hC.apart i m o om hin hmq (Ne.symm e) hoi hom s hmd).2 hs'
            split at hcl'
            . rename_i hlt'
              rw [hE.sin m om s hmq (hdep hcl') hom hmd,hG.sin m om s hmq (by rw [nK_eq hom,hmN,hmK]; simp; omega) hom hmd]
            . rename_i hlt'
              have hmf : listed.getD m false=false:=by
               cases hh : listed.getD m false with
               | false => rfl
               | true => have:=hcl.dep hcl' hh; rw [hif] at this; cases this
              by_cases hk2 : m < k
              . exact absurd hs' (hlate m om s (by omega) hk2 hom hmN hmd)
              . rw [onlyE hmf,onlyG (by simp [hk2])]
        . rw [hE.sout s fun n on hn _ hon hnd => hw ⟨n,on,hn,hon,hnd⟩,hG.sout s fun n on hn _ hon hnd => hw ⟨n,on,hn,hon,hnd⟩]
       cases hN : isN o with
       | true =>
         have hst:=stepA_spec hs (hA i o d hin hoi hN hd E (fun s => s=layN d (V i) (OB i) E) (hsee (hX.notK hin hoi hN) q (Nat.le_refl _) (by omega) (fun _ => hN) fun m om s h1 h2 h3 h4 h5 => hX.later i o m om s hin h2 h1 hoi h3 hN h5) rfl)
          (K':=wpAny P .any l.toArray Q fuel (listed.setIfInBounds i true)) (Q:=Q) fun q' a' w' hs' hq => by
          subst hq
          exact ih _ _ a' w' (by simpa using hsz) hclS htl hcount
           (hE.lay hX hin hoi hd hL' (hn0 i o d hin hoi hN hd) (fun k hk hLk hne => by
            cases hKk : kK l q k with
            | false => exact hVd k i o d hk hKk hin hne hoi hN hd
            | true =>
              obtain ⟨ok,hok⟩ : ∃ o,l[k]? = some o:=⟨l[k]'(by have:=hC.le; omega),by simp [show k < l.length by have:=hC.le; omega]⟩
              obtain ⟨_,s,m,om,hop,hmk,hom,hmN,hms⟩:=hX.carry k ok hk hok hKk
              rw [(hVK k ok s m om hk hok hKk hop (by omega) hom hms).1]
              refine hVd m i o d (by omega) (hX.notK (by omega) hom hmN) hin (fun e => ?_) hoi hN hd
              subst e
              have hsl : s ∈ looks l ok:=List.mem_append_left _ (List.mem_filterMap.2 ⟨.tmp s,by rw [hop]; simp [Op.operands],rfl⟩)
              have:=(hC.apart k m ok om hk (by omega) (by omega) hok hom s hms).2 hsl
              rw [if_pos hmk] at this
              have:=hcl.dep this hLk
              rw [hif] at this; cases this) (fun k ob hk hob => hBw k ob d hk hob) hif) hs'
         split
         . rename_i hw; rw [if_pos hw] at hst; exact .inl hst
         . rename_i hw; rw [if_neg hw] at hst; exact hst
       | false =>
         cases hKi : kK l q i with
         | true =>
           obtain ⟨_,s,m,om,hop,hmk,hom,hmN,hms⟩:=hX.carry i o hin hoi hKi
           obtain ⟨v1,v2⟩:=hVK i o s m om hin hoi hKi hop (by omega) hom hms
           have hsl : s ∈ looks l o:=List.mem_append_left _ (List.mem_filterMap.2 ⟨.tmp s,by rw [hop]; simp [Op.operands],rfl⟩)
           have hdp:=(hC.apart i m o om hin (by omega) (by omega) hoi hom s hms).2 hsl
           rw [if_pos hmk] at hdp
           have hsv:=hE.sin m om s (by omega) (hdep hdp) hom hms
           have hYE : Yl P N l E o (V i):=by
            refine ⟨v2,?_⟩
            unfold guardA
            rw [hX.guard i o hin hoi (.inr hKi)]
            simp only
            unfold hopA
            rw [hop]
            have : qv P E (.assign (.tmp s))=some (True,V m):=by simp only [qv,ev,hsv,Option.map_some]
            rw [this]
            exact ⟨trivial,v1.symm⟩
           have hst:=Yl_spec hs hYE (K':=wpAny P .any l.toArray Q fuel (listed.setIfInBounds i true)) (Q:=Q) fun a' w' hs' => by
            rw [hd] at hs'
            exact ih _ _ a' w' (by simpa using hsz) hclS htl hcount (hE.quiet hX hin hoi hd hL' (hBn i hin (by rw [nK_eq hoi]; exact hN))) hs'
           split
           . rename_i hw; rw [if_pos hw] at hst; exact .inl hst
           . rename_i hw; rw [if_neg hw] at hst; exact hst
         | false =>
         have h0 : ∀ k o d,k < q->l[k]? = some o->isN o=true->o.dst=some d->lk d st0.o=none:=fun k o d h1 h2 h3 h4 => by
          cases h5 : lk d st0.o with
          | none => rfl
          | some ob => exact absurd rfl (noD_o (hn0 k o d h1 h2 h3 h4) h5)
         have hEo : ∀ j,lk j (addK l E st0.o q)=lk j E.o:=fun j => by
          rcases addK_lk (E:=E) h0 q (Nat.le_refl _) j with ⟨h5,_⟩ | ⟨h5,h6⟩
          . exact h5
          . rw [h5,hE.oout j fun k ok hk hL hok hkd => by
             cases h7 : isN ok with
             | true => exact absurd hkd (h6 k ok hk hok h7)
             | false => exact hBn k hk (by rw [nK_eq hok]; exact h7)]
         have hsE : Sim Z N B M w0 ⟨E.s,addK l E st0.o q⟩ a w:=hs.congr2 (fun _ => rfl) hEo
         have hE' : St6 l q V OB st0 (fun k => listed.getD k false) ⟨E.s,addK l E st0.o q⟩ :=
          ⟨hE.sin,hE.sout,fun k ok j ob a b c d e => (hEo j).trans (hE.oin k ok j ob a b c d e),fun j hj => (hEo j).trans (hE.oout j hj)⟩
         have hYa : Yl P N l ⟨E.s,st0.o⟩ o (V i):=Yl_alike ⟨(hSk i (by omega)).1.symm,fun s hs' => hsee hKi i (by omega) (Nat.le_refl _) (fun h => by omega) (fun m om s h1 h2 => by omega) s hs'⟩ (hY i o hin hoi hN hKi).1
         have hv : ∀ k ok d,k < q->l[k]? = some ok->isN ok=true->ok.dst=some d->∀ x ∈ o.op.operands,∀ v,ev E x=some v->v.has d=false:=fun k ok d' hk hok hkN hkd x hx v hxv => by
          cases x with
          | tmp s =>
            have hsl : s ∈ looks l o:=List.mem_append_left _ (List.mem_filterMap.2 ⟨.tmp s,by simpa using hx,rfl⟩)
            have hxv' : lk s E.s=some v:=hxv
            by_cases hw : ∃ m om,m < q∧listed.getD m false=true∧l[m]? = some om∧om.dst=some s
            . obtain ⟨m,om,hmq,hml,hom,hmd⟩:=hw
              rw [hE.sin m om s hmq hml hom hmd] at hxv'
              cases hxv'
              have hmK : kK l q m=false:=by
               cases h5 : kK l q m with
               | false => rfl
               | true => exact absurd hsl (hX.blind i o m om s hin hmq hoi hom hKi (.inr h5) hmd)
              refine hVd m k ok d' hmq hmK hk (fun e => ?_) hok hkN hkd
              subst e
              rw [hok] at hom; cases hom
              exact hX.blind i o m ok s hin hmq hoi hok hKi (.inl hkN) hmd hsl
            . rw [hE.sout s fun n on hn hL hon hnd => hw ⟨n,on,hn,hL,hon,hnd⟩] at hxv'
              exact noD_s (hn0 k ok d' hk hok hkN hkd) hxv'
          | const u => exact const_noD hxv
          | func f => cases hxv; rfl
          | global g => obtain ⟨_,rfl⟩:=ev_glob_d hxv; rfl
         have hYE : Yl P N l ⟨E.s,addK l E st0.o q⟩ o (V i):=by
          obtain ⟨y1,y2⟩:=hYa
          refine ⟨y1,?_⟩
          have hhop : ∀ {K : AV->Prop},hopA P ⟨E.s,st0.o⟩ o K->hopA P ⟨E.s,addK l E st0.o q⟩ o K:=fun hh => hop_many hX hE hn0 hBw hBn (i:=i) (hX.quiet i o hin hoi hN hKi) hv hh q (Nat.le_refl _)
          unfold guardA at *
          split at y2
          . exact hhop y2
          . rename_i j want hg
            split at y2
            . rename_i d' hd'
              simp only at y2 ⊢
              split at y2
              . exact ⟨fun h => hhop (y2.1 h),y2.2⟩
              . exact y2
              . exact y2
            . exact y2
         have hst:=Yl_spec hsE hYE (K':=wpAny P .any l.toArray Q fuel (listed.setIfInBounds i true)) (Q:=Q) fun a' w' hs' => by
          rw [hd] at hs'
          exact ih _ _ a' w' (by simpa using hsz) hclS htl hcount (hE'.quiet hX hin hoi hd hL' (hBn i hin (by rw [nK_eq hoi]; exact hN))) hs'
         split
         . rename_i hw; rw [if_pos hw] at hst; exact .inl hst
         . rename_i hw; rw [if_neg hw] at hst; exact hst

def headable (l : List Oper) (Ds : List Nat) (o : Oper) : Bool:=o.dst.isSome && ((isN o && o.guard.isNone || (isQ6 o || isC o)) && (looks l o).all (fun s => !Ds.contains s) || isKd Ds o)
def headLen (l : List Oper) : List Nat->List Oper->Nat
 | _,[] => 0
 | Ds,o :: r => if headable l Ds o then headLen l (bif isN o || isKd Ds o then o.dst.toList++Ds else Ds) r + 1 else 0
def regionOK6 (l : List Oper) : Bool :=
 let q:=headLen l [] l
 let h:=l.take q
 let Ds:=dstsN h
 let Ks:=(h.filter (isKd Ds)).filterMap (·.dst)
 regionOK l q && h.any isN &&
 (h.zipIdx.all fun (o,k) => o.dst.isSome &&
  (bif isKd Ds o then o.guard.isNone && !isN o && (match o.op with | .assign (.tmp s) => (dstsN (l.take k)).contains s | _ => false) else
   ((Ds ++ Ks).all (fun d => !(looks l o).contains d) &&
     (bif isN o then o.guard.isNone && (h.zipIdx.all fun (om,m) => Nat.ble m k || (match om.dst with | some s => !(looks l o).contains s | none => true)) else (isQ6 o || isC o)))))
theorem mem_dstsN : ∀ {l : List Oper} {o : Oper} {d : Nat},o ∈ l->isN o=true->o.dst=some d->d ∈ dstsN l
 | [],_,_,h,_,_ => by cases h
 | o' :: r, o, d, h, hN, hd => by
   rcases List.mem_cons.1 h with e | h
   . subst e; simp [dstsN,hN,hd]
   . have:=mem_dstsN h hN hd
     simp only [dstsN]
     split
     . split
       . exact List.mem_cons_of_mem _ this
       . exact this
     . exact this
theorem mem_dstsN_of {d : Nat} : ∀ {l : List Oper},d ∈ dstsN l->∃ o ∈ l,isN o=true∧o.dst=some d
 | [],h => by cases h
 | o :: r, h => by
   simp only [dstsN] at h
   split at h
   . rename_i hN
     split at h
     . rename_i d' hd
       rcases List.mem_cons.1 h with e | h
       . subst e; exact ⟨o,by simp,hN,hd⟩
       . obtain ⟨o',h1,h2⟩:=mem_dstsN_of h
         exact ⟨o',by simp [h1],h2⟩
     . obtain ⟨o',h1,h2⟩:=mem_dstsN_of h
       exact ⟨o',by simp [h1],h2⟩
   . obtain ⟨o',h1,h2⟩:=mem_dstsN_of h
     exact ⟨o',by simp [h1],h2⟩
theorem regionOK6_spec {l : List Oper} (h : regionOK6 l=true) : Checked6 l (headLen l [] l):=by
 unfold regionOK6 at h
 simp only [Bool.and_eq_true] at h
 obtain ⟨⟨h1,_⟩,h3⟩:=h
 generalize headLen l [] l=q at *
 have zip : ∀ {l' : List Oper} {p : Oper × Nat->Bool},l'.zipIdx.all p=true->∀ i o,l'[i]? = some o->p (o,i)=true:=by
  intro l' p hp i o ho
  rw [List.all_eq_true] at hp
  exact hp _ (List.mem_iff_getElem?.2 ⟨i,by simp [List.getElem?_zipIdx,ho]⟩)
 have htk : ∀ k o,k < q->l[k]? = some o->(l.take q)[k]? = some o:=fun k o hk ho => by rw [List.getElem?_take,if_pos hk]; exact ho
 have hall : ∀ k o,k < q->l[k]? = some o->_:=fun k o hk ho => zip h3 k o (htk k o hk ho)
 simp only [Bool.and_eq_true] at hall
 have hnk : ∀ k o,k < q->l[k]? = some o->kK l q k=false->_:=fun k o hk ho hK => by
  have:=(hall k o hk ho).2
  rw [← kK_eq ho,hK] at this
  simp only [cond_false,Bool.and_eq_true] at this
  exact this
 refine ⟨regionOK_spec h1,fun k o m om d hk hm ho hom hKk hN hd hmem => ?_,fun k o hk ho => Option.isSome_iff_exists.1 (hall k o hk ho).1,fun k o hk ho hN hKk => ?_,fun k o hk ho hN => ?_,fun k o m om s hk hm hkm ho hom hN hd hmem => ?_,fun k o hk ho hKk => ?_⟩
 . have:=(hnk k o hk ho hKk).1
   rw [List.all_eq_true] at this
   have hin : d ∈ dstsN (l.take q)++((l.take q).filter (isKd (dstsN (l.take q)))).filterMap (·.dst):=by
    rcases hN with hN | hN
    . exact List.mem_append_left _ (mem_dstsN (List.mem_of_getElem? (htk m om hm hom)) hN hd)
    . exact List.mem_append_right _ (List.mem_filterMap.2 ⟨om,List.mem_filter.2 ⟨List.mem_of_getElem? (htk m om hm hom),by rw [← kK_eq hom]; exact hN⟩,hd⟩)
   have:=this d hin
   rw [show (looks l o).contains d=true by simpa using hmem] at this
   cases this
 . have:=(hnk k o hk ho hKk).2
   rw [hN] at this
   exact this
 . cases hKk : kK l q k with
   | true =>
     have:=(hall k o hk ho).2
     rw [← kK_eq ho,hKk] at this
     simp only [cond_true,Bool.and_eq_true] at this
     exact Option.isNone_iff_eq_none.1 this.1.1
   | false =>
     rw [hKk] at hN
     have hN:=hN.resolve_right (by simp)
     have:=(hnk k o hk ho hKk).2
     rw [hN] at this
     simp only [cond_true,Bool.and_eq_true] at this
     exact Option.isNone_iff_eq_none.1 this.1
 . have hKk : kK l q k=false:=by
    cases hKk : kK l q k with
    | false => rfl
    | true =>
      have:=(hall k o hk ho).2
      rw [← kK_eq ho,hKk] at this
      simp only [cond_true,Bool.and_eq_true,Bool.not_eq_true'] at this
      rw [hN] at this; exact absurd this.1.2 (by simp)
   have:=(hnk k o hk ho hKk).2
   rw [hN] at this
   simp only [cond_true,Bool.and_eq_true] at this
   have:=zip this.2 m om (htk m om hm hom)
   simp only [hd,Bool.or_eq_true,Nat.ble_eq,Bool.not_eq_true'] at this
   rw [show (looks l o).contains s=true by simpa using hmem] at this
   rcases this with h | h
   . omega
   . cases h
 . have:=(hall k o hk ho).2
   rw [← kK_eq ho,hKk] at this
   simp only [cond_true,Bool.and_eq_true,Bool.not_eq_true'] at this
   refine ⟨this.1.2,?_⟩
   have h5:=this.2
   split at h5
   . rename_i s hop
     obtain ⟨om,hom,hmN,hms⟩:=mem_dstsN_of (by simpa using h5)
     obtain ⟨m,hm⟩:=List.mem_iff_getElem?.1 hom
     rw [List.getElem?_take] at hm
     split at hm
     . rename_i hmk; exact ⟨s,m,om,hop,hmk,hm,hmN,hms⟩
     . cases hm
   . cases h5

def noDs (st : St) : List Nat->Prop
 | [] => True
 | d :: r => noD d st∧noDs st r
theorem noDs_mem {st : St} : ∀ {l : List Nat},noDs st l->∀ d ∈ l,noD d st
 | [],_,_,h => by cases h
 | d :: r, h, d', hd' => by
   rcases List.mem_cons.1 hd' with e | e
   . rw [e]; exact h.1
   . exact noDs_mem h.2 d' e
def isK6 (l : List Oper) (o : Oper) : Bool:=isKd (dstsN (l.take (headLen l [] l))) o
def quietL (l : List Oper) : List Oper:=(l.take (headLen l [] l)).filter fun o => !isN o && !isK6 l o
def carL (l : List Oper) : List Oper:=(l.take (headLen l [] l)).filter (isK6 l)
def laidL (l : List Oper) : List Oper:=(l.take (headLen l [] l)).filter isN
def restL (l : List Oper) : List Oper:=l.drop (headLen l [] l)

theorem head6_values {l : List Oper} (p : Oper->Bool) {K : St->Prop} : ∀ {r : List Oper} {st : St},headA P N l (r.filter p) st K->∃ (V : Nat->AV) (S : Nat->St),S 0=st ∧
 (∀ k o,r[k]? = some o->(p o=true->Yl P N l (S k) o (V k)∧S (k + 1)=(S k).put o.dst (V k))∧(p o=false->S (k + 1)=S k))∧K (S r.length)
 | [],st,h => ⟨fun _ => .undef,fun _ => st,rfl,by simp,h⟩
 | o :: r, st, h => by
   cases hN : p o with
   | false =>
     rw [List.filter_cons_of_neg (by simp [hN])] at h
     obtain ⟨V,S,h3,h4,h5⟩:=head6_values p h
     refine ⟨fun k => match k with | 0 => .undef | k + 1 => V k,fun k => match k with | 0 => st | k + 1 => S k,rfl,fun k o' hk => ?_,h5⟩
     cases k with
     | zero =>
       simp only [List.getElem?_cons_zero,Option.some.injEq] at hk
       subst hk
       exact ⟨fun h => (by rw [hN] at h; cases h),fun _ => h3⟩
     | succ k => exact h4 k o' (by simpa using hk)
   | true =>
     rw [List.filter_cons_of_pos (by simp [hN])] at h
     obtain ⟨av,h1,h2⟩:=headA_Yl h
     obtain ⟨V,S,h3,h4,h5⟩:=head6_values p h2
     refine ⟨fun k => match k with | 0 => av | k + 1 => V k,fun k => match k with | 0 => st | k + 1 => S k,rfl,fun k o' hk => ?_,h5⟩
     cases k with
     | zero =>
       simp only [List.getElem?_cons_zero,Option.some.injEq] at hk
       subst hk
       exact ⟨fun _ => ⟨h1,h3⟩,fun h => (by rw [hN] at h; cases h)⟩
     | succ k => exact h4 k o' (by simpa using hk)

theorem wp_drawn6 {id : Nat} {l : List Oper} {K : St->Prop} {Q : Exit->Act->World->Prop} {st : St} {a : Act} {w : World} (hm : P.follows .mixedOrders=true) (hc : regionOK6 l=true)
 (hQ : ∀ st a w,Sim Z N B M w0 st a w->K st->Q .normal a w) (hs : Sim Z N B M w0 st a w)
 (hq : noDs st (dstsN (laidL l))∧headA P N l (quietL l) st fun st' => noDs st' (dstsN (laidL l))∧laysD st' (laidL l)∧opsA P N l (laidL l++(carL l++restL l)) st' K) :
 SW P (Code.region id l.toArray true) Q a w:=by
 have hX:=regionOK6_spec hc
 unfold quietL laidL restL carL isK6 at hq
 generalize headLen l [] l=q at *
 obtain ⟨hn0,hq⟩:=hq
 obtain ⟨V0,S,hS0,hS,hnq,hld,hops⟩:=head6_values _ hq
 have hle:=hX.hC.le
 have htk : (l.take q).length=q:=by rw [List.length_take]; omega
 rw [htk] at hnq hld hops
 have hin : ∀ k o,k < q->l[k]? = some o->(l.take q)[k]? = some o:=fun k o hk ho => by rw [List.getElem?_take,if_pos hk]; exact ho
 have hmemN : ∀ k o,k < q->l[k]? = some o->isN o=true->o ∈ (l.take q).filter isN:=fun k o hk ho hN => List.mem_filter.2 ⟨List.mem_of_getElem? (hin k o hk ho),hN⟩
 have hN0 : ∀ k o d,k < q->l[k]? = some o->isN o=true->o.dst=some d->noD d st:=fun k o d hk ho hN hd => noDs_mem hn0 d (mem_dstsN (hmemN k o hk ho hN) hN hd)
 have hNq : ∀ k o d,k < q->l[k]? = some o->isN o=true->o.dst=some d->noD d (S q):=fun k o d hk ho hN hd => noDs_mem hnq d (mem_dstsN (hmemN k o hk ho hN) hN hd)
 have hSq : ∀ k,k<=q->(S k).o=st.o∧∀ (V : Nat->AV) (OB : Nat->Option AO),(∀ m,m < q->nK l m=false->OB m=none∧(kK l q m=false->V m=V0 m))->St6 l q V OB st (fun m => decide (m < k) && (!nK l m && !kK l q m)) (S k):=by
  intro k
  induction k with
  | zero => intro _; rw [hS0]; exact ⟨rfl,fun V OB _ => ⟨fun _ _ _ _ h => by simp at h,fun _ _ => rfl,fun _ _ _ _ _ h => by simp at h,fun _ _ => rfl⟩⟩
  | succ k ih =>
    intro hk
    obtain ⟨h1,h2⟩:=ih (by omega)
    obtain ⟨o,ho⟩ : ∃ o,l[k]? = some o:=⟨l[k]'(by omega),by simp [show k < l.length by omega]⟩
    cases hN : (!isN o && !isKd (dstsN (l.take q)) o) with
    | false =>
      rw [(hS k o (hin k o (by omega) ho)).2 hN]
      have : (fun m => decide (m < k + 1) && (!nK l m && !kK l q m))=(fun m => decide (m < k) && (!nK l m && !kK l q m)):=by
       funext m
       by_cases e : m=k
       . subst e; rw [nK_eq ho,kK_eq ho,hN]; simp
       . have : decide (m < k + 1)=decide (m < k):=decide_eq_decide.2 (by omega)
         rw [this]
      rw [this]; exact ⟨h1,h2⟩
    | true =>
      obtain ⟨d,hd⟩:=hX.dst k o (by omega) ho
      obtain ⟨_,h3⟩:=(hS k o (hin k o (by omega) ho)).1 hN
      rw [h3,hd]
      refine ⟨h1,fun V OB hVO => ?_⟩
      simp only [Bool.and_eq_true,Bool.not_eq_true'] at hN
      have hVk:=hVO k (by omega) (by rw [nK_eq ho]; exact hN.1)
      rw [← hVk.2 (by rw [kK_eq ho]; exact hN.2)]
      refine (h2 V OB hVO).quiet hX (by omega) ho hd (fun m hm => ?_) hVk.1
      by_cases e : m=k
      . subst e; rw [nK_eq ho,kK_eq ho,hN.1,hN.2]; simp
      . have : decide (m < k + 1)=decide (m < k):=decide_eq_decide.2 (by omega)
        rw [this,decide_eq_false e,Bool.or_false]
 have hV0d : ∀ k m om d,k < q->nK l k=false->kK l q k=false->m < q->l[m]? = some om->isN om=true->om.dst=some d->(V0 k).has d=false:=fun k m om d hk hkN hkK hm hom hN hd => by
  obtain ⟨o,ho⟩ : ∃ o,l[k]? = some o:=⟨l[k]'(by omega),by simp [show k < l.length by omega]⟩
  obtain ⟨s,hs⟩:=hX.dst k o hk ho
  exact noD_s (hNq m om d hm hom hN hd) (((hSq q (Nat.le_refl _)).2 V0 (fun _ => none) fun _ _ _ => ⟨rfl,fun _ => rfl⟩).sin k o s hk (by simp [hk,hkN,hkK]) ho hs)
 -- the layings,one after the other
 have hlay : ∀ j,j<=q->∃ (V : Nat->AV) (OB : Nat->Option AO) (G : St),(∀ m,m < q->nK l m=false->OB m=none∧(kK l q m=false->V m=V0 m)) ∧
  (∀ k o d,k < j->l[k]? = some o->isN o=true->o.dst=some d->(∀ st' K',(∀ s ∈ looks l o,lk s st'.s=lk s (S q).s)->(K' (layN d (V k) (OB k) st') : Prop)->stepA P N l st' o K')∧(∀ d',d' ≠ d->(V k).has d'=false)∧∀ ob',OB k=some ob'->∀ d',ob'.wipe d'=ob') ∧
  (∀ k,j<=k->k < q->OB k=none) ∧
  St6 l q V OB st (fun m => !kK l q m && (!nK l m || decide (m < j))) G∧opsA P N l (((l.take q).drop j).filter isN++((l.take q).filter (isKd (dstsN (l.take q)))++l.drop q)) G K:=by
  intro j
  induction j with
  | zero =>
    intro _
    refine ⟨V0,fun _ => none,S q,fun _ _ _ => ⟨rfl,fun _ => rfl⟩,fun k o d h => by omega,fun _ _ _ => rfl,?_,by simpa using hops⟩
    have:=(hSq q (Nat.le_refl _)).2 V0 (fun _ => none) fun _ _ _ => ⟨rfl,fun _ => rfl⟩
    refine ⟨fun k o s hk hL => this.sin k o s hk (by revert hL; cases nK l k<;>cases kK l q k<;>simp [hk]),fun s hs => this.sout s fun k o hk hL => hs k o hk (by revert hL; cases nK l k<;>cases kK l q k<;>simp [hk]),fun k o s ob hk hL => this.oin k o s ob hk (by revert hL; cases nK l k<;>cases kK l q k<;>simp [hk]),fun s hs => this.oout s fun k o hk hL => hs k o hk (by revert hL; cases nK l k<;>cases kK l q k<;>simp [hk])⟩
  | succ j ih =>
    intro hj
    obtain ⟨V,OB,G,g1,g2,g2b,g3,g4⟩:=ih (by omega)
    obtain ⟨o,ho⟩ : ∃ o,l[j]? = some o:=⟨l[j]'(by omega),by simp [show j < l.length by omega]⟩
    have hdr : (l.take q).drop j=o :: (l.take q).drop (j + 1):=by
     rw [List.drop_eq_getElem_cons (by rw [htk]; omega)]
     congr 1
     have:=hin j o (by omega) ho
     rw [List.getElem?_eq_getElem (by rw [htk]; omega)] at this
     exact Option.some.inj this
    rw [hdr] at g4
    cases hN : isN o with
    | false =>
      rw [List.filter_cons_of_neg (by simp [hN])] at g4
      refine ⟨V,OB,G,g1,fun k o' d hk hk2 hk3 => ?_,fun k hk hkq => g2b k (by omega) hkq,?_,g4⟩
      . by_cases e : k=j
        . subst e; rw [ho] at hk2; cases hk2; rw [hN] at hk3; cases hk3
        . exact g2 k o' d (by omega) hk2 hk3
      . have : (fun m => !kK l q m && (!nK l m || decide (m < j + 1)))=(fun m => !kK l q m && (!nK l m || decide (m < j))):=by
         funext m
         by_cases e : m=j
         . subst e; rw [nK_eq ho,hN]; simp
         . have : decide (m < j + 1)=decide (m < j):=decide_eq_decide.2 (by omega)
           rw [this]
        rw [this]; exact g3
    | true =>
      rw [List.filter_cons_of_pos hN,List.cons_append] at g4
      obtain ⟨d,hd⟩:=hX.dst j o (by omega) ho
      have hg:=hX.guard j o (by omega) ho (.inl hN)
      -- its slots are as behind the quiet ones
      have hGS : ∀ s ∈ looks l o,lk s G.s=lk s (S q).s:=fun s hs' => by
       have hS6:=(hSq q (Nat.le_refl _)).2 V OB g1
       by_cases hw : ∃ m om,m < q∧l[m]? = some om∧om.dst=some s
       . obtain ⟨m,om,hmq,hom,hmd⟩:=hw
         have hjK:=hX.notK (show j < q by omega) ho hN
         have hmN : isN om=false:=by
          cases h5 : isN om with
          | false => rfl
          | true => exact absurd hs' (hX.blind j o m om s (by omega) hmq ho hom hjK (.inl h5) hmd)
         have hmK : kK l q m=false:=by
          cases h5 : kK l q m with
          | false => rfl
          | true => exact absurd hs' (hX.blind j o m om s (by omega) hmq ho hom hjK (.inr h5) hmd)
         rw [g3.sin m om s hmq (by rw [nK_eq hom,hmN,hmK]; rfl) hom hmd,hS6.sin m om s hmq (by rw [nK_eq hom,hmN,hmK]; simp [hmq]) hom hmd]
       . rw [g3.sout s fun n on hn _ hon hnd => hw ⟨n,on,hn,hon,hnd⟩,hS6.sout s fun n on hn _ hon hnd => hw ⟨n,on,hn,hon,hnd⟩]
      have hlG : layD G o:=by
       have h1:=laysD_mem hld o (hmemN j o (by omega) ho hN)
       have hev:=looks_ev (l:=l) (o:=o) (st:=S q) (st':=G) hGS
       unfold layD at h1 ⊢
       split at h1
       . rename_i c hop
         split at h1
         . rename_i s x hargs
           have hs' : ev G s=ev (S q) s:=hev s (by rw [hop]; simp only [Op.operands,Call.operands,Array.mem_append]; exact .inr (by rw [← Array.mem_toList_iff,hargs]; simp))
           have hx' : ev G x=ev (S q) x:=hev x (by rw [hop]; simp only [Op.operands,Call.operands,Array.mem_append]; exact .inr (by rw [← Array.mem_toList_iff,hargs]; simp))
           rw [hx']
           refine ⟨?_,h1.2⟩
           have : noRoomS G s=noRoomS (S q) s:=by unfold noRoomS; split<;>simp only [hs']
           rw [this]; exact h1.1
         . exact h1.elim
       . trivial
      obtain ⟨x,ob,k1,k2,k3,k4⟩:=lay_one hN hg hd hlG g4
      have hVN : ∀ m,m < q->(if m=j then x else V m)=V m∨m=j:=fun m _ => by by_cases e : m=j<;>simp [e]
      refine ⟨fun m => if m=j then x else V m,fun m => if m=j then ob else OB m,layN d x ob G,fun m hm hmN => ?_,fun k o' d' hk hk2 hk3 hk4 => ?_,fun k hk hkq => ?_,?_,k1⟩
      . have e : m ≠ j:=by rintro rfl; rw [nK_eq ho,hN] at hmN; cases hmN
        simp only [if_neg e]; exact g1 m hm hmN
      . by_cases e : k=j
        . subst e; rw [ho] at hk2; cases hk2; rw [hd] at hk4; cases hk4
          simp only [if_true]
          exact ⟨fun st' K' h => k2 st' K' fun s hs' => (h s hs').trans (hGS s hs').symm,k3,k4⟩
        . simp only [if_neg e]; exact g2 k o' d' (by omega) hk2 hk3 hk4
      . simp only [if_neg (show ¬ k=j by omega)]; exact g2b k (by omega) hkq
      . have g3' : St6 l q (fun m => if m=j then x else V m) (fun m => if m=j then ob else OB m) st (fun m => !kK l q m && (!nK l m || decide (m < j))) G:=by
         have hne : ∀ m,(!kK l q m && (!nK l m || decide (m < j)))=true->m ≠ j:=fun m h => by rintro rfl; rw [nK_eq ho,hN] at h; simp at h
         exact ⟨fun k o' s hk hL hk2 hk3 => by simp only [if_neg (hne k hL)]; exact g3.sin k o' s hk hL hk2 hk3,g3.sout,fun k o' s ob' hk hL hk2 hk3 hk4 => by simp only [if_neg (hne k hL)] at hk4; exact g3.oin k o' s ob' hk hL hk2 hk3 hk4,
          fun s hs => g3.oout s fun k o' hk hL hk2 hk3 => by have:=hs k o' hk hL hk2 hk3; simpa only [if_neg (hne k hL)] using this⟩
        have:=g3'.lay hX (i:=j) (by omega) ho hd (L':=fun m => !kK l q m && (!nK l m || decide (m < j + 1))) (fun m hm => by
         by_cases e : m=j
         . subst e; rw [hX.notK hm ho hN]; simp
         . have e1 : decide (m < j + 1)=decide (m < j):=decide_eq_decide.2 (by omega)
           simp only [e1,decide_eq_false e,Bool.or_false])
         (hN0 j o d (by omega) ho hN hd) (fun k hk hL hne => by
          simp only [if_neg hne]
          simp only [Bool.and_eq_true,Bool.not_eq_true'] at hL
          cases hkN : nK l k with
          | false => rw [(g1 k hk hkN).2 hL.1]; exact hV0d k j o d hk hkN hL.1 (by omega) ho hN hd
          | true =>
            obtain ⟨ok,hok⟩ : ∃ o,l[k]? = some o:=⟨l[k]'(by omega),by simp [show k < l.length by omega]⟩
            obtain ⟨dk,hdk⟩:=hX.dst k ok hk hok
            have hkj : k < j:=by have:=hL.2; rw [hkN] at this; simpa using this
            refine (g2 k ok dk hkj hok (by rw [← nK_eq hok]; exact hkN) hdk).2.1 d fun e => ?_
            subst e
            exact (hX.hC.apart k j ok o hk (by omega) hne hok ho d hd).1 hdk) (fun k ob' hk hob => by
          by_cases e : k=j
          . simp only [if_pos e] at hob; exact k4 ob' hob d
          . simp only [if_neg e] at hob
            cases hkN : nK l k with
            | false => rw [(g1 k hk hkN).1] at hob; cases hob
            | true =>
              obtain ⟨ok,hok⟩ : ∃ o,l[k]? = some o:=⟨l[k]'(by omega),by simp [show k < l.length by omega]⟩
              obtain ⟨dk,hdk⟩:=hX.dst k ok hk hok
              by_cases hkj : k < j
              . exact (g2 k ok dk hkj hok (by rw [← nK_eq hok]; exact hkN) hdk).2.2 ob' hob d
              . rw [g2b k (by omega) hk] at hob; cases hob) (by rw [nK_eq ho,hN]; simp)
        simpa only [if_true] using this
 obtain ⟨V,OB,F0,g1',g2',_,g3',g4'⟩:=hlay q (Nat.le_refl _)
 have hdrq : (l.take q).drop q=[]:=by rw [List.drop_eq_nil_of_le (by rw [htk]; exact Nat.le_refl _)]
 rw [hdrq] at g4'
 -- what gives them to slots
 have hcar : ∀ j,j<=q->∃ (V1 : Nat->AV) (G : St),(∀ m,m < q->kK l q m=false->V1 m=V m) ∧
  (∀ (k : Nat) (o : Oper) (s m : Nat) (om : Oper),k < j->l[k]? = some o->kK l q k=true->o.op=.assign (.tmp s)->m < q->l[m]? = some om->om.dst=some s->V1 k=V1 m∧dstB N o.dst) ∧
  St6 l q V1 OB st (fun m => !kK l q m || decide (m < j)) G∧opsA P N l (((l.take q).drop j).filter (isKd (dstsN (l.take q)))++l.drop q) G K:=by
  intro j
  induction j with
  | zero =>
    intro _
    refine ⟨V,F0,fun _ _ _ => rfl,fun k o s m om h => by omega,?_,by simpa using g4'⟩
    exact ⟨fun k o s hk hL => g3'.sin k o s hk (by revert hL; cases kK l q k<;>simp [hk]),fun s hs => g3'.sout s fun k o hk hL => hs k o hk (by revert hL; cases kK l q k<;>simp [hk]),
     fun k o s ob hk hL => g3'.oin k o s ob hk (by revert hL; cases kK l q k<;>simp [hk]),fun s hs => g3'.oout s fun k o hk hL => hs k o hk (by revert hL; cases kK l q k<;>simp [hk])⟩
  | succ j ih =>
    intro hj
    obtain ⟨V1,G,k1,k2,k3,k4⟩:=ih (by omega)
    obtain ⟨o,ho⟩ : ∃ o,l[j]? = some o:=⟨l[j]'(by omega),by simp [show j < l.length by omega]⟩
    have hdr : (l.take q).drop j=o :: (l.take q).drop (j + 1):=by
     rw [List.drop_eq_getElem_cons (by rw [htk]; omega)]
     congr 1
     have:=hin j o (by omega) ho
     rw [List.getElem?_eq_getElem (by rw [htk]; omega)] at this
     exact Option.some.inj this
    rw [hdr] at k4
    cases hKj : kK l q j with
    | false =>
      rw [List.filter_cons_of_neg (by rw [← kK_eq ho,hKj]; simp)] at k4
      refine ⟨V1,G,k1,fun k o' s m om hk hk2 hk3 => ?_,?_,k4⟩
      . by_cases e : k=j
        . subst e; rw [hKj] at hk3; cases hk3
        . exact k2 k o' s m om (by omega) hk2 hk3
      . have : (fun m => !kK l q m || decide (m < j + 1))=(fun m => !kK l q m || decide (m < j)):=by
         funext m
         by_cases e : m=j
         . subst e; rw [hKj]; simp
         . have : decide (m < j + 1)=decide (m < j):=decide_eq_decide.2 (by omega)
           rw [this]
        rw [this]; exact k3
    | true =>
      rw [List.filter_cons_of_pos (by rw [← kK_eq ho]; exact hKj),List.cons_append] at k4
      obtain ⟨d,hd⟩:=hX.dst j o (by omega) ho
      obtain ⟨hoN,s,m,om,hop,hmj,hom,hmN,hms⟩:=hX.carry j o (by omega) ho hKj
      have hg:=hX.guard j o (by omega) ho (.inr hKj)
      have hmK:=hX.notK (show m < q by omega) hom hmN
      have hsv:=k3.sin m om s (by omega) (by rw [hmK]; rfl) hom hms
      have hk4 : dstB N o.dst∧opsA P N l (((l.take q).drop (j + 1)).filter (isKd (dstsN (l.take q)))++l.drop q) (G.put o.dst (V1 m)) K:=by
       have h5 : stepA P N l G o (fun st' => opsA P N l (((l.take q).drop (j + 1)).filter (isKd (dstsN (l.take q)))++l.drop q) st' K):=k4
       unfold stepA guardA at h5
       rw [hg] at h5
       simp only at h5
       unfold opA at h5
       have h6 : qv P G (.assign (.tmp s))=some (True,V1 m):=by simp only [qv,ev,hsv,Option.map_some]
       simp only [hop,nilA,h6] at h5
       exact h5.2
      have hnK : nK l j=false:=by rw [nK_eq ho]; exact hoN
      refine ⟨fun n => if n=j then V1 m else V1 n,G.put o.dst (V1 m),fun n hn hnK' => ?_,fun k o' s' m' om' hk hk2 hk3 hk4' hm' hom' hms' => ?_,?_,hk4.2⟩
      . have e : n ≠ j:=by rintro rfl; rw [hKj] at hnK'; cases hnK'
        simp only [if_neg e]; exact k1 n hn hnK'
      . have hm'j : m' ≠ j:=by
         rintro rfl
         rw [ho] at hom'; cases hom'
         -- a carrier's slot is looked at by no carrier
         obtain ⟨_,s2,m2,om2,hop2,hm2,hom2,hm2N,hms2⟩:=hX.carry k o' (by omega) hk2 hk3
         rw [hop2] at hk4'
         have : s2=s':=by simpa using hk4'
         subst this
         have hne : m2 ≠ m':=by rintro rfl; rw [ho] at hom2; cases hom2; rw [hoN] at hm2N; cases hm2N
         exact (hX.hC.apart m2 m' om2 o (by omega) (by omega) hne hom2 ho s2 hms').1 hms2
        by_cases e : k=j
        . subst e
          rw [ho] at hk2; cases hk2
          simp only [if_true,if_neg hm'j]
          rw [hop] at hk4'
          have : s=s':=by simpa using hk4'
          subst this
          have hmm : m'=m:=by
           by_cases e2 : m'=m
           . exact e2
           . exact absurd hms (hX.hC.apart m m' om om' (by omega) hm' (Ne.symm e2) hom hom' s hms').1
          rw [hmm]
          exact ⟨rfl,hk4.1⟩
        . simp only [if_neg e,if_neg hm'j]
          exact k2 k o' s' m' om' (by omega) hk2 hk3 hk4' hm' hom' hms'
      . have hne : ∀ n,(!kK l q n || decide (n < j))=true->n ≠ j:=fun n h => by rintro rfl; rw [hKj] at h; simp at h
        have k3' : St6 l q (fun n => if n=j then V1 m else V1 n) OB st (fun n => !kK l q n || decide (n < j)) G :=
         ⟨fun k o' s hk hL hk2 hk3 => by simp only [if_neg (hne k hL)]; exact k3.sin k o' s hk hL hk2 hk3,k3.sout,k3.oin,k3.oout⟩
        have:=k3'.quiet hX (i:=j) (by omega) ho hd (L':=fun n => !kK l q n || decide (n < j + 1)) (fun n hn => by
         by_cases e : n=j
         . subst e; simp
         . have e1 : decide (n < j + 1)=decide (n < j):=decide_eq_decide.2 (by omega)
           simp only [e1,decide_eq_false e,Bool.or_false]) (g1' j (by omega) hnK).1
        rw [hd]
        simpa only [if_true] using this
 obtain ⟨V1,F,k1,k2,g3,g4⟩:=hcar q (Nat.le_refl _)
 rw [hdrq] at g4
 show wpAny P .any l.toArray Q l.toArray.size (Array.replicate l.toArray.size false) a { w with drawn:=w.drawn + 1 }
 have hfalse : ∀ k,(Array.replicate l.length false).getD k false=false:=fun k => by
  rcases Nat.lt_or_ge k l.length with h | h
  . simp [h]
  . simp [h]
 have hnKo : ∀ k,k < q->∃ o,l[k]? = some o:=fun k hk => ⟨l[k]'(by omega),by simp [show k < l.length by omega]⟩
 have hq0 : ∀ k o,k < q->l[k]? = some o->isN o=false->kK l q k=false->(!isN o && !isKd (dstsN (l.take q)) o)=true:=fun k o hk ho h1 h2 => by
  rw [kK_eq ho] at h2; rw [h1,h2]; rfl
 have:=any6 (P:=P) hX hQ (V:=V1) (OB:=OB) (S:=S) (F:=F) hS0 hN0 (fun k m om d hk hkK hm hne hom hN hd => by
  rw [k1 k hk hkK]
  cases hkN : nK l k with
  | false => rw [(g1' k hk hkN).2 hkK]; exact hV0d k m om d hk hkN hkK hm hom hN hd
  | true =>
    obtain ⟨ok,hok⟩:=hnKo k hk
    obtain ⟨dk,hdk⟩:=hX.dst k ok hk hok
    refine (g2' k ok dk hk hok (by rw [← nK_eq hok]; exact hkN) hdk).2.1 d fun e => ?_
    subst e
    exact (hX.hC.apart k m ok om hk hm hne hok hom d hd).1 hdk) (fun k ob d hk hob => by
  cases hkN : nK l k with
  | false => rw [(g1' k hk hkN).1] at hob; cases hob
  | true =>
    obtain ⟨ok,hok⟩:=hnKo k hk
    obtain ⟨dk,hdk⟩:=hX.dst k ok hk hok
    exact (g2' k ok dk hk hok (by rw [← nK_eq hok]; exact hkN) hdk).2.2 ob hob d) (fun k hk hkN => (g1' k hk hkN).1)
  (fun k o s m om hk ho hKk hop hm hom hms => k2 k o s m om hk ho hKk hop hm hom hms)
  (fun k o hk ho hN hKk => by
   have:=(hS k o (hin k o hk ho)).1 (hq0 k o hk ho hN hKk)
   rw [k1 k hk hKk,(g1' k hk (by rw [nK_eq ho]; exact hN)).2 hKk]; exact this) (fun k o hk ho hN => (hS k o (hin k o hk ho)).2 (by
    rcases hN with h | h
    . rw [h]; rfl
    . rw [kK_eq ho] at h; rw [h]; simp))
  (fun k o d hk ho hN hd => by
   rw [k1 k hk (hX.notK hk ho hN)]
   exact (g2' k o d hk ho hN hd).1)
  ⟨fun k o s hk _ => g3.sin k o s hk (by simp [hk]),fun s hs => g3.sout s fun k o hk _ => hs k o hk rfl,fun k o s ob hk _ => g3.oin k o s ob hk (by simp [hk]),fun s hs => g3.oout s fun k o hk _ => hs k o hk rfl⟩ g4
  l.length (Array.replicate l.length false) st a { w with drawn:=w.drawn + 1 } (by simp) (fun k o _ hk => by rw [hfalse k] at hk; cases hk)
  (fun t _ _ => hfalse t) (by
   have : (List.range l.length).countP (fun k => !(Array.replicate l.length false).getD k false)=(List.range l.length).length:=by
    rw [List.countP_eq_length]; intro k _; rw [hfalse k]; rfl
   rw [this]; simp)
  ⟨fun k _ _ _ h => (by simp only [hfalse k] at h; cases h),fun _ _ => rfl,fun k _ _ _ _ h => (by simp only [hfalse k] at h; cases h),fun _ _ => rfl⟩
  (by obtain ⟨β,φ,hB⟩:=hs; exact ⟨β,φ,hB.drawn⟩)
 simpa using this
end
end Abs
