/- Code, abstractly: the weakest precondition, loops, and a function's contract out of its body. No condition. -/
import Derived.Test.YtiafnejjhnjbfaaDoorAbsAny7
import Derived.Test.YtiafnejjhnjbfaaDoorAbsPair
set_option linter.all false
namespace Abs
open Go Go.RowKit

def lift (Z : Nat->Prop) (N B : Nat) (M : Nat->Prop) (w0 : World) (Q : Exit->St->Prop) : Exit->Act->World->Prop:=fun e a w =>
 match e with
 | .panic _ => False
 | .outgrown => False
 | e => ∃ st,Sim Z N B M w0 st a w∧Q e st

def loud (o : Oper) : Bool :=
 match o.op with
 | .store .. | .box .. | .alloc _ | .makeSlice .. => true
 | .call c => match c.callee with
   | .builtin .append => true
   | _ => false
 | _ => false
def headN (l : List Oper) : Nat:=l.findIdx loud

def regionOKx (l : List Oper) : Bool:=regionOK2 l
def callsV (l : List Oper) : Bool:=l.any fun o => match o.op with
 | .call c => (match c.callee with
   | .value (.tmp _) => true
   | _ => false)
 | _ => false
def endsC (l : List Oper) : Bool:=match l.getLast? with
 | some o => (match o.op with
   | .call c => (match c.callee with
     | .value _ => true
     | _ => false)
   | _ => false)
 | none => false
def pairsC (l : List Oper) : Bool:=l.any fun o => match o.op with
 | .call c => (match c.callee with
   | .value _ => (l.any fun b => (match b.op with | .load .. => true | _ => false) && (match b.dst with | some d => (looks l o).contains d | none => false)) &&
    (l.any fun b => (match b.op with | .extract _ i => i == 0 && l.any fun b' => (match b'.op with | .extract _ i' => i' == 1 && b.type == b'.type | _ => false) | _ => false))
   | _ => false)
 | _ => false
def pref3 (l : List Oper) : Bool:=pairsC l && regionOKP l
def pref7 (l : List Oper) : Bool:=(feeds l || callsV l || endsC l || (grows l && !regionOK l (headN l) && !regionOKx l)) && regionOK7 false l
def cl7 (l : List Oper) : List Bool:=cls7 (!regionOK7 false l) l [] l
theorem cl7_ok {l : List Oper} (h : regionOK7 false l=true∨regionOK7 true l=true) : ok7 (cl7 l) l=true:=by
 unfold cl7
 cases h' : regionOK7 false l with
 | true => exact h'
 | false => exact h.resolve_left (by rw [h']; simp)
def regionU (l : List Oper) : Bool:=Nat.ble 2 (l.filter fun o => match o.op with | .alloc _ => true | _ => false).length
def codeOK : Code->Bool
 | .region _ ops true => regionOK ops.toList (headN ops.toList) || (regionOKx ops.toList || (regionOK6 ops.toList || (regionOK7 false ops.toList || (regionOK7 true ops.toList || regionU ops.toList))))
 | .seq x y => codeOK x && codeOK y
 | .cond _ x y => codeOK x && codeOK y
 | .block _ c => codeOK c
 | .loop c => codeOK c
 | _ => true

def Ok (P : Program) (N : Nat) (c : Code) (Q : Exit->St->Prop) (st : St) : Prop :=
 codeOK c=true->P.follows .mixedOrders=true->∀ Z B M w0 a w,Sim Z N B M w0 st a w->SW P c (lift Z N B M w0 Q) a w

def Wk (N : Nat) (st st' : St) : Prop:=∀ Z β φ B M w0 a w,SimB Z β φ N B M w0 st a w->∃ β' φ',SimB Z β' φ' N B M w0 st' a w

theorem Wk.refl {N st} : Wk N st st:=fun _ β φ _ _ _ _ _ h => ⟨β,φ,h⟩
theorem Wk.trans {N st st' st''} (h : Wk N st st') (h' : Wk N st' st'') : Wk N st st'':=fun _ _ _ _ _ _ _ _ hs =>
 let ⟨_,_,h1⟩:=h _ _ _ _ _ _ _ _ hs
 h' _ _ _ _ _ _ _ _ h1
theorem Wk.sub {N} {s s' : List (Nat × AV)} {o : List (Nat × AO)} (h : ∀ p ∈ s',lk p.1 s=some p.2) : Wk N ⟨s,o⟩ ⟨s',o⟩:=fun _ β φ _ _ _ _ _ hs =>
 ⟨β,φ,hs.sub fun i av hi => .inr (h _ (lk_some_mem hi))⟩
theorem Wk.kill {N st} (j : Nat) : Wk N st (st.kill j):=fun _ β φ _ _ _ _ _ hs => ⟨β,φ,hs.kill j (fun _ _ => rfl) fun _ _ => rfl⟩
theorem Wk.frz {N st j e k es} (hj : lk j st.o=some (.arr e k es)) : Wk N st (st.frz j es):=fun _ β φ _ _ _ _ _ hs => ⟨β,φ,hs.frz hj⟩

def seqQ (K : St->Prop) (Q : Exit->St->Prop) : Exit->St->Prop
 | .normal,st => K st
 | e,st => Q e st
def blockQ (id : Nat) (Q : Exit->St->Prop) : Exit->St->Prop
 | .exit id',st => if id'=id then Q .normal st else Q (.exit id') st
 | e,st => Q e st
def loopQ (N : Nat) (I : Nat->St->Prop) (n : Nat) (Q : Exit->St->Prop) : Exit->St->Prop
 | .normal,st => ∃ m st',m < n∧Wk N st st'∧I m st'
 | e,st => Q e st

def awp (P : Program) (N : Nat) : Code->(Exit->St->Prop)->St->Prop
 | .skip,Q,st => Q .normal st
 | .region _ ops false,Q,st => opsA P N ops.toList ops.toList st (Q .normal)
 | .region _ ops true, Q, st => if pref3 ops.toList then headA P N ops.toList (ops.toList.take (callN ops.toList)) st fun st' => opsA P N ops.toList ((ops.toList.drop (callN ops.toList)).take 1) st' fun st'' => headA P N ops.toList (ops.toList.drop (callN ops.toList + 1)) st'' (Q .normal)
   else if pref7 ops.toList then headA P N ops.toList ((hs7 (cl7 ops.toList) ops.toList).map (·.1)) st fun st' => tail7 P N ops.toList (hs7 (cl7 ops.toList) ops.toList) (ts7 (cl7 ops.toList) ops.toList) st' (Q .normal)
   else if regionOK ops.toList (headN ops.toList) then headA P N ops.toList (ops.toList.take (headN ops.toList)) st fun st' => opsA P N ops.toList (ops.toList.drop (headN ops.toList)) st' (Q .normal)
   else if !regionOKx ops.toList then if regionOK6 ops.toList then noDs st (dstsN (laidL ops.toList))∧headA P N ops.toList (quietL ops.toList) st fun st' => noDs st' (dstsN (laidL ops.toList))∧laysD st' (laidL ops.toList)∧opsA P N ops.toList (laidL ops.toList++(carL ops.toList++restL ops.toList)) st' (Q .normal)
    else if regionOK7 false ops.toList || regionOK7 true ops.toList then headA P N ops.toList ((hs7 (cl7 ops.toList) ops.toList).map (·.1)) st fun st' => tail7 P N ops.toList (hs7 (cl7 ops.toList) ops.toList) (ts7 (cl7 ops.toList) ops.toList) st' (Q .normal) else False
   else headA P N ops.toList (ops.toList.filter isH) st fun st' => allData st' (ops.toList.filter isH)∧opsA P N ops.toList (ops.toList.filter isT) st' (Q .normal)
 | .seq x y,Q,st => awp P N x (seqQ (awp P N y Q) Q) st
 | .cond c x y, Q, st => match ev st c with
   | some (.d (.bool b)) => (b=true->awp P N x Q st)∧(b=false->awp P N y Q st)
   | _ => False
 | .block id c,Q,st => awp P N c (blockQ id Q) st
 | .loop c,Q,st => Ok P N (.loop c) Q st
 | .rangeFunc g ps x y,Q,st => Ok P N (.rangeFunc g ps x y) Q st
 | .exit id,Q,st => Q (.exit id) st
 | .ret,Q,st => Q .ret st
 | _,_,_ => False

section
variable {P : Program} {N : Nat}

theorem Ok.mono {c Q Q' st} (h : Ok P N c Q st) (hq : ∀ e st,Q e st->Q' e st) : Ok P N c Q' st:=fun h1 h2 Z B M w0 a w hs =>
 sw_mono c (h h1 h2 Z B M w0 a w hs) fun e a w hl => by
  cases e<;>simp only [lift] at hl ⊢<;>try exact hl.elim
  all_goals exact ⟨hl.choose,hl.choose_spec.1,hq _ _ hl.choose_spec.2⟩
theorem Ok.weak {c Q st st'} (hw : Wk N st st') (h : Ok P N c Q st') : Ok P N c Q st:=fun h1 h2 Z B M w0 a w ⟨_,_,hs⟩ =>
 h h1 h2 Z B M w0 a w (hw _ _ _ _ _ _ _ _ hs)

theorem wpOps_of_opsA {Z B M w0} {l : List Oper} {K : St->Prop} {Q : Exit->Act->World->Prop} (hQ : ∀ st a w,Sim Z N B M w0 st a w->K st->Q .normal a w) :
 ∀ (r : List Oper) (t : Nat) (st : St) (a : Act) (w : World),l.drop t=r->Sim Z N B M w0 st a w->opsA P N l r st K->wpOps P l.toArray Q (List.range' t r.length) a w
 | [],t,st,a,w,_,hs,hq => by simp [wpOps]; exact hQ _ _ _ hs hq
 | o :: r, t, st, a, w, hd, hs, hq => by
   have ho : l[t]? = some o:=by
    have:=congrArg (fun x : List Oper => x[0]?) hd
    simpa using this
   have hd' : l.drop (t + 1)=r:=by
    have:=congrArg List.tail hd
    simpa using this
   simp only [List.length_cons,List.range'_succ,wpOps]
   have ho' : (l.toArray)[t]? = some o:=by simpa using ho
   rw [ho']
   simp only
   have:=stepA_spec hs hq (K':=wpOps P l.toArray Q (List.range' (t + 1) r.length)) (Q:=Q) fun st' a' w' hs' hk => wpOps_of_opsA hQ r (t + 1) st' a' w' hd' hs' hk
   split
   . rename_i hw; rw [if_pos hw] at this; exact .inl this
   . rename_i hw; rw [if_neg hw] at this; exact this

theorem ok_of_awp : ∀ (c : Code) (Q : Exit->St->Prop) (st : St),awp P N c Q st->Ok P N c Q st
 | .skip,Q,st,h => fun _ _ Z B M w0 a w hs => ⟨st,hs,h⟩
 | .exit id,Q,st,h => fun _ _ Z B M w0 a w hs => ⟨st,hs,h⟩
 | .ret,Q,st,h => fun _ _ Z B M w0 a w hs => ⟨st,hs,h⟩
 | .loop c,Q,st,h => h
 | .seq x y, Q, st, h => fun h1 h2 Z B M w0 a w hs => by
   simp only [codeOK,Bool.and_eq_true] at h1
   refine sw_mono x (ok_of_awp x _ st h h1.1 h2 Z B M w0 a w hs) fun e a w hl => ?_
   cases e with
   | normal => obtain ⟨st',hs',hk⟩:=hl; exact ok_of_awp y Q st' hk h1.2 h2 Z B M w0 a w hs'
   | exit id => exact hl
   | goto l => exact hl
   | ret => exact hl
   | panic ch => exact hl
   | outgrown => exact hl
 | .cond c x y, Q, st, h => fun h1 h2 Z B M w0 a w hs => by
   simp only [codeOK,Bool.and_eq_true] at h1
   simp only [awp] at h
   split at h
   . rename_i b hb
     have he : a.eval c=.bool b:=by obtain ⟨β,φ,hB⟩:=hs; exact ev_bool hB hb
     exact ⟨b,he,fun e => ok_of_awp x Q st (h.1 e) h1.1 h2 Z B M w0 a w hs,fun e => ok_of_awp y Q st (h.2 e) h1.2 h2 Z B M w0 a w hs⟩
   . exact h.elim
 | .block id c, Q, st, h => fun h1 h2 Z B M w0 a w hs => by
   refine sw_mono c (ok_of_awp c _ st h h1 h2 Z B M w0 a w hs) fun e a w hl => ?_
   cases e with
   | exit id' =>
     obtain ⟨st',hs',hk⟩:=hl
     simp only [blockQ] at hk
     simp only [Exit.inBlock]
     split
     . rename_i e; rw [if_pos e] at hk; exact ⟨st',hs',hk⟩
     . rename_i e; rw [if_neg e] at hk; exact ⟨st',hs',hk⟩
   | normal => exact hl
   | goto l => exact hl
   | ret => exact hl
   | panic ch => exact hl
   | outgrown => exact hl
 | .region id ops false, Q, st, h => fun _ _ Z B M w0 a w hs => by
   obtain ⟨l⟩:=ops
   have:=wpOps_of_opsA (P:=P) (Q:=lift Z N B M w0 Q) (fun st a w hs hk => ⟨st,hs,hk⟩) l 0 st a w rfl hs h
   show wpOps P l.toArray (lift Z N B M w0 Q) (List.range l.toArray.size) a w
   simpa [List.range_eq_range'] using this
 | .region id ops true, Q, st, h => fun h1 h2 Z B M w0 a w hs => by
   obtain ⟨l⟩:=ops
   simp only [codeOK,Bool.or_eq_true] at h1
   simp only [awp] at h
   split at h
   . rename_i hp
     unfold pref3 at hp
     simp only [Bool.and_eq_true] at hp
     exact wp_drawnP h2 hp.2 (fun st a w hs hk => ⟨st,hs,hk⟩) hs h
   split at h
   . rename_i hp
     refine wp_drawn7 h2 (cl7_ok (.inl ?_)) (fun st a w hs hk => ⟨st,hs,hk⟩) hs h
     unfold pref7 at hp
     simp only [Bool.and_eq_true] at hp
     exact hp.2
   split at h
   . rename_i hc; exact wp_drawn h2 hc (fun st a w hs hk => ⟨st,hs,hk⟩) hs h
   . rename_i hc
     have h1:=h1.resolve_left hc
     split at h
     . rename_i hx
       have hx' : regionOKx l=false:=by simpa using hx
       rw [hx'] at h1
       have h1:=h1.resolve_left (by simp)
       split at h
       . rename_i h6; exact wp_drawn6 h2 h6 (fun st a w hs hk => ⟨st,hs,hk⟩) hs h
       split at h
       . rename_i h7; exact wp_drawn7 h2 (cl7_ok (by simpa using h7)) (fun st a w hs hk => ⟨st,hs,hk⟩) hs h
       . exact h.elim
     rename_i hx
     have h1 : regionOKx l=true:=by simpa using hx
     unfold regionOKx at h1
     exact wp_drawn2 h2 h1 (fun st a w hs hk => ⟨st,hs,hk⟩) hs h
 | .label _,_,_,h => h.elim
 | .goto _,_,_,h => h.elim
 | .scope _,_,_,h => h.elim
 | .rangeFunc ..,_,_,h => h
 | .refuse _,_,_,h => h.elim

theorem Ok.loop {c Q st} (I : Nat->St->Prop) (n0 : Nat) {st0 : St} (hw : Wk N st st0) (h0 : I n0 st0) (hr : ∀ n st,I n st->awp P N c (loopQ N I n Q) st) : Ok P N (.loop c) Q st:=by
 intro h1 h2 Z B M w0 a w ⟨β,φ,hs⟩
 refine ⟨fun n a w => ∃ st,Sim Z N B M w0 st a w∧I n st,n0,⟨st0,hw _ _ _ _ _ _ _ _ hs,h0⟩,fun n a w ⟨st',hs',hI⟩ => ?_⟩
 refine sw_mono c (ok_of_awp c _ st' (hr n st' hI) h1 h2 Z B M w0 a w hs') fun e a w hl => ?_
 cases e with
 | normal =>
   obtain ⟨st1,⟨β1,φ1,hs1⟩,m,st2,hlt,hw2,hI2⟩:=hl
   exact ⟨m,hlt,st2,hw2 _ _ _ _ _ _ _ _ hs1,hI2⟩
 | exit id => exact hl
 | goto l => exact hl
 | ret => exact hl
 | panic ch => exact hl
 | outgrown => exact hl

def _root_.Go.Obj.cm : Obj->Bool
 | .cells .. => true
 | .map .. => true
 | _ => false
def cellsAt (w : World) (g : Nat) : Prop:=∃ o : Obj,w.heap[g]? = some o∧o.cm=true
theorem cells_cm {w : World} {g : Nat} (h : ∃ o : Obj,w.heap[g]? = some o∧o.isCells=true) : cellsAt w g:=by
 obtain ⟨o,h1,h2⟩:=h
 refine ⟨o,h1,?_⟩
 cases o<;>simp_all [Go.Obj.isCells,Go.Obj.cm]
theorem Rd.only {S : Nat->Prop} {w : World} : ∀ {x v},Rd S w x v->Rd (fun g => S g∧cellsAt w g) w x v:=by
 intro x v h
 induction h with
 | int k n => exact .int k n
 | bool b => exact .bool b
 | str s => exact .str s
 | nil a => exact .nil a
 | slice vs hk hcap hc _ ih => exact .slice vs hk hcap (fun i hi => ⟨⟨(hc i hi).1,cells_cm (cells_of_cell (hc i hi).2)⟩,(hc i hi).2⟩) ih
 | agg hl _ ih => exact .agg hl ih
 | ptr vs hc _ ih => exact .ptr vs (fun i hi => ⟨⟨(hc i hi).1,cells_cm (cells_of_cell (hc i hi).2)⟩,(hc i hi).2⟩) ih
 | nilptr => exact .nilptr
 | fn hl hl' _ _ ih ih' => exact .fn hl hl' ih ih'
 | nilfn => exact .nilfn
 | tup hl _ ih => exact .tup hl ih
 | map ms hS hb he => exact .map ms ⟨hS,_,hb,rfl⟩ hb he
 | nilmap => exact .nilmap
 | tag _ ih => exact .tag ih
 | sl1 _ ih => exact .sl1 ih
theorem Rel.only {β : Nat->Value} {S : Nat->Prop} {w : World} : ∀ {x v},Rel β S w x v->Rel β (fun g => S g∧cellsAt w g) w x v:=by
 intro x v h
 induction h with
 | undef v => exact .undef v
 | d h => exact .d h.only
 | sl j => exact .sl j
 | p h => exact .p h
 | pe h => exact .pe h
 | mq h => exact .mq h
 | sf h hl => exact .sf h hl
 | vw h => exact .vw h
 | pv h => exact .pv h
 | tup hl _ ih => exact .tup hl ih
 | fn hl _ ih => exact .fn hl ih
 | e0n => exact .e0n
 | e0s a => exact .e0s a
 | hdr h => exact .hdr h
 | nilS => exact .nilS
 | st hl _ ih => exact .st hl ih
theorem OK.only {β : Nat->Value} {S : Nat->Prop} {w : World} {o v F} (h : OK β S w o v F) : OK β (fun g => S g∧cellsAt w g) w o v F:=by
 cases h with
 | box hF xs hv hw hr => exact .box hF xs hv hw fun i hi => (hr i hi).only
 | arr hF xs hk0 hk hw hr => exact .arr hF xs hk0 hk hw fun i hi => (hr i hi).only
 | arv hF xs hv hk0 hk hw hr => exact .arv hF xs hv hk0 hk hw fun i hi => (hr i hi).only
 | mp b ms c hF hv hbb he => exact .mp b ms c hF hv hbb he
 | arw hlt xs hk0 hk hw hbb hr hv => exact .arw hlt xs hk0 hk hw hbb (fun i hi => (hr i hi).only) hv
 | view hF b c hv => exact .view hF b c hv
 | d1 hlt h => exact .d1 hlt h
 | res hv hlt fs hr hf hd => exact .res hv hlt fs hr hf hd
 | dp hlt h => exact .dp hlt h
theorem SimB.shut {Z β φ N B M w0 st a w} (h : SimB Z β φ N B M w0 st a w) {w' : World} (hos : w'.os=w.os) (htp : w'.tape=w.tape) (hou : w'.output=w.output) (hdr : w'.drawn=w.drawn) (hsz : w'.heap.size=w.heap.size)
 (hb : ∀ g,(∀ D,markD D ∈ a.defers->g ≠ D)->w'.heap[g]? = w.heap[g]?) : SimB Z β φ N B M w0 st { a with defers:=[] } w':=by
 have hcell : ∀ g,cellsAt w g->w'.heap[g]? = w.heap[g]? := fun g ⟨o,ho,hc⟩ => hb g fun D hD e => by
  obtain ⟨D',e',_,_,hd⟩:=h.nd.each _ hD
  have : D=D':=by simpa [markD] using e'
  subst this; subst e
  rw [ho] at hd; cases hd; cases hc
 have hm : ∀ g,(free Z φ st.o g∧cellsAt w g)->g < w.heap.size->free Z φ st.o g∧w'.heap[g]? = w.heap[g]? := fun g hg _ => ⟨hg.1,hcell g hg.2⟩
 refine ⟨.nil,h.size,fun i av hi => ((h.slots i av hi).only).move hm,fun j o hj => ((h.objs j o hj).only).move hm (by rw [hsz]; exact Nat.le_refl _) fun g hg => hb g fun D hD e => ?_,h.own,h.disj,
  ⟨hos.trans h.fr.os,htp.trans h.fr.tape,hou.trans h.fr.output,by rw [hsz]; exact h.fr.le,by rw [hsz]; exact h.fr.size,fun g hgB hgM => (hb g fun D hD e => ?_).trans (h.fr.block g hgB hgM),Nat.le_trans h.fr.drawn (dr_mono (Nat.le_of_eq hdr.symm))⟩,h.z,h.gw⟩
 . obtain ⟨D',e',hf,_,_⟩:=h.nd.each _ hD
   have e4 : D=D':=by simpa [markD] using e'
   rw [e] at hg
   rw [← e4] at hf
   cases hrs : o.isRes with
   | false => exact hf.2 j o hj hrs hg
   | true =>
     have hO:=h.objs j o hj
     cases o<;>try (cases hrs; done)
     cases hO with
     | res hv hc fs hr hfs hd2 =>
       obtain ⟨_,_,_,h1⟩:=hc _ hg
       obtain ⟨D2,e2,_,_,hd3⟩:=h.nd.each _ hD
       have e3 : D=D2:=by simpa [markD] using e2
       rw [e3] at h1
       rw [hd3] at h1; cases h1
 . obtain ⟨D',e',_,hB,_⟩:=h.nd.each _ hD
   have : D=D':=by simpa [markD] using e'
   subst this; subst e
   exact hB.elim (by omega) hgM

def argsS : Nat->List D->List (Nat × AV)
 | _,[] => []
 | i,x :: r => argsS (i + 1) r++[(i,argV x)]
theorem lk_app {α : Type} (k : Nat) (r : List (Nat × α)) : ∀ l,lk k (l++r)=match lk k l with | some v => some v | none => lk k r
 | [] => rfl
 | (k', v') :: l => by
   simp only [List.cons_append,lk]
   split
   . rfl
   . exact lk_app k r l
theorem lk_argsS {j : Nat} : ∀ {i : Nat} {xs : List D} {av},lk j (argsS i xs)=some av->i<=j∧j - i < xs.length∧av=argV (xs.getD (j - i) .nilptr)
 | i,[],av,h => by simp [argsS,lk] at h
 | i, x :: r, av, h => by
   simp only [argsS,lk_app,lk] at h
   split at h
   rotate_left
   . split at h
     . rename_i e; subst e; cases h; simp
     . cases h
   . rename_i v e
     cases h
     obtain ⟨h1,h2,h3⟩:=lk_argsS e
     refine ⟨by omega,by simp; omega,?_⟩
     rw [h3]
     have : j - i=(j - (i + 1)) + 1:=by omega
     rw [this]; simp

def resV (P : Program) (st : St) : List ResultVar->Option (Prop × List AV)
 | [] => some (True,[])
 | .tmp t :: r => match lk t st.s, resV P st r with
   | some v,some vs => some (vs.1,v :: vs.2)
   | _,_ => none
 | .cell a t :: r => match (lk a st.s).bind (loadV P st.o t), resV P st r with
   | some v,some vs => some ((P.underlying t).isSome=true∧v.1∧vs.1,v.2 :: vs.2)
   | _,_ => none

mutual
def D.plain : D->Bool
 | .slice es => es.isEmpty
 | .agg cs => D.plainL cs
 | .tup xs => D.plainL xs
 | .ptr _ => false
 | .fn _ _ _ => false
 | .map _ _ _ => false
 | .tag _ _ => false
 | .sl1 _ => false
 | _ => true
def D.plainL : List D->Bool
 | [] => true
 | x :: r => x.plain && D.plainL r
end
theorem plainL_getD : ∀ {xs : List D},D.plainL xs=true->∀ i,i < xs.length->(xs.getD i .nilptr).plain=true
 | [],_,i,h => by simp at h
 | x :: r, h, i, hi => by
   simp only [D.plainL,Bool.and_eq_true] at h
   cases i with
   | zero => simpa using h.1
   | succ i => simpa using plainL_getD h.2 i (by simpa using hi)

theorem Rd.plain {S S' : Nat->Prop} {w w' : World} : ∀ {x v},Rd S w x v->x.plain=true->Rd S' w' x v:=by
 intro x v h
 induction h with
 | int k n => exact fun _ => .int k n
 | bool b => exact fun _ => .bool b
 | str s => exact fun _ => .str s
 | nil a => exact fun _ => .nil a
 | slice vs hk hcap hc _ ih =>
   intro hp
   simp only [D.plain,List.isEmpty_iff] at hp
   subst hp
   exact .slice vs hk hcap (by simp [flat]) (by simp [flat])
 | agg hl _ ih => intro hp; simp only [D.plain] at hp; exact .agg hl fun i hi => ih i hi (plainL_getD hp i hi)
 | ptr vs hc _ ih => intro hp; simp [D.plain] at hp
 | nilptr => exact fun _ => .nilptr
 | fn hl hl' _ _ ih ih' => intro hp; simp [D.plain] at hp
 | nilfn => exact fun _ => .nilfn
 | tup hl _ ih => intro hp; simp only [D.plain] at hp; exact .tup hl fun i hi => ih i hi (plainL_getD hp i hi)
 | map ms hS hb he => intro hp; simp [D.plain] at hp
 | tag _ ih => intro hp; simp [D.plain] at hp
 | sl1 _ ih => intro hp; simp [D.plain] at hp
 | nilmap => exact fun _ => .nilmap

mutual
def AV.plain : AV->Prop
 | .d x => x.plain=true
 | .tup xs => AV.plainL xs
 | .st xs => AV.plainL xs
 | .fn _ cs => AV.plainL cs
 | _ => True
def AV.plainL : List AV->Prop
 | [] => True
 | x :: r => x.plain∧AV.plainL r
end
def AO.plain : AO->Prop
 | .box _ cells => AV.plainL cells
 | .arr _ _ es => ∀ x ∈ es,x.plain=true
 | .arv _ _ es => ∀ x ∈ es,x.plain=true
 | .dp _ _ _ => True
 | .mp _ _ _ => True
 | .res _ => True
 | .arw _ _ es _ => ∀ x ∈ es,x.plain=true
 | .view _ => True
 | .d1 _ => True
def plainO : List (Nat × AO)->Prop
 | [] => True
 | (_,o) :: r => o.plain∧plainO r

theorem aplainL_getD : ∀ {xs : List AV},AV.plainL xs->∀ i,(xs.getD i .undef).plain
 | [],_,i => by simp [AV.plain]
 | x :: r,h,0 => by simpa using h.1
 | x :: r,h,i + 1 => by simpa using aplainL_getD h.2 i
theorem Rel.plain {β : Nat->Value} {S S' : Nat->Prop} {w : World} : ∀ {x v},Rel β S w x v->x.plain->Rel β S' w x v:=by
 intro x v h
 induction h with
 | undef v => exact fun _ => .undef v
 | d h => intro hp; exact .d (h.plain hp)
 | sl j => exact fun _ => .sl j
 | p h => exact fun _ => .p h
 | pe h => exact fun _ => .pe h
 | mq h => exact fun _ => .mq h
 | sf h hl => exact fun _ => .sf h hl
 | vw h => exact fun _ => .vw h
 | pv h => exact fun _ => .pv h
 | tup hl _ ih => intro hp; simp only [AV.plain] at hp; exact .tup hl fun i hi => ih i hi (aplainL_getD hp i)
 | fn hl _ ih => intro hp; simp only [AV.plain] at hp; exact .fn hl fun i hi => ih i hi (aplainL_getD hp i)
 | e0n => exact fun _ => .e0n
 | e0s ad => exact fun _ => .e0s ad
 | hdr h => exact fun _ => .hdr h
 | nilS => exact fun _ => .nilS
 | st hl _ ih => intro hp; simp only [AV.plain] at hp; exact .st hl fun i hi => ih i hi (aplainL_getD hp i)
theorem plain_flat {es : List D} (h : ∀ x ∈ es,x.plain=true) (i : Nat) (hi : i < (flat es).length) : ((flat es).getD i .nilptr).plain=true:=by
 have hm : (flat es).getD i .nilptr ∈ flat es:=by
  simp only [List.getD_eq_getElem?_getD,List.getElem?_eq_getElem hi,Option.getD_some]; exact List.getElem_mem hi
 obtain ⟨x,hx,hc⟩:=List.mem_flatMap.1 hm
 have hp:=h x hx
 generalize (flat es).getD i .nilptr=c at *
 cases x<;>simp only [D.cells,List.mem_singleton] at hc
 case agg cs =>
  simp only [D.plain] at hp
  obtain ⟨k,hk,rfl⟩:=List.getElem_of_mem hc
  have:=plainL_getD hp k hk
  simpa [List.getD_eq_getElem?_getD,hk] using this
 all_goals (subst hc; exact hp)
theorem OK.plain {β : Nat->Value} {S S' : Nat->Prop} {w : World} {o v F} (h : OK β S w o v F) (hp : o.plain) : OK β S' w o v F:=by
 cases h with
 | box hF xs hv hw hr => exact .box hF xs hv hw fun i hi => (hr i hi).plain (aplainL_getD hp i)
 | arr hF xs hk0 hk hw hr => exact .arr hF xs hk0 hk hw fun i hi => (hr i hi).plain (plain_flat hp i hi)
 | arv hF xs hv hk0 hk hw hr => exact .arv hF xs hv hk0 hk hw fun i hi => (hr i hi).plain (plain_flat hp i hi)
 | mp b ms c hF hv hbb he => exact .mp b ms c hF hv hbb he
 | arw hlt xs hk0 hk hw hbb hr hv => exact .arw hlt xs hk0 hk hw hbb (fun i hi => (hr i hi).plain (plain_flat hp i hi)) hv
 | view hF b c hv => exact .view hF b c hv
 | d1 hlt h => exact .d1 hlt h
 | res hv hlt fs hr hf hd => exact .res hv hlt fs hr hf hd
 | dp hlt h => exact .dp hlt h
theorem plainO_lk : ∀ {oo : List (Nat × AO)},plainO oo->∀ {j o},lk j oo=some o->o.plain
 | (k, v) :: r, h, j, o, hj => by
   simp only [lk] at hj
   split at hj
   . cases hj; exact h.1
   . exact plainO_lk h.2 hj

def Packs (st : St) (av res : AV) (oo : List (Nat × AO)) : Prop :=
 ∃ κ : Nat->Nat,av=res.ren κ∧(∀ p ∈ oo,lk (κ p.1) st.o=some (p.2.ren κ))∧∀ p ∈ oo,∀ q ∈ oo,κ p.1=κ q.1->p.1=q.1

def oneOf : List AV->AV
 | [v] => v
 | vs => .tup vs
def retO (P : Program) (rs : List ResultVar) (sh : Bool) (res : AV) (oo : List (Nat × AO)) (st : St) : Prop :=
 match resV P st rs with
  | some (c,avs) => c∧Packs st (oneOf avs) res oo∧(sh=true∨(res.plain∧plainO oo))
  | none => False
def frzs : List Nat->St->St
 | [],st => st
 | j :: r, st => match (lk j st.o).bind rowOf with
   | some es => frzs r (st.frz j es)
   | none => frzs r st
theorem SimB.frzs {Z : Nat->Prop} {β : Nat->Value} {φ : Nat->Nat->Prop} {N B : Nat} {M : Nat->Prop} {w0 : World} {a : Act} {w : World} : ∀ {js : List Nat} {st : St},SimB Z β φ N B M w0 st a w->SimB Z β φ N B M w0 (Abs.frzs js st) a w
 | [],st,h => h
 | j :: r, st, h => by
   simp only [Abs.frzs]
   split
   . rename_i hj
     obtain ⟨ob,h1,h2⟩:=Option.bind_eq_some_iff.1 hj
     exact SimB.frzs (h.frz' h1 h2)
   . exact SimB.frzs h
def retQ (P : Program) (rs : List ResultVar) (sh : Bool) (res : AV) (oo : List (Nat × AO)) : Exit->St->Prop:=fun e st =>
 match e with
 | .normal | .ret => retO P rs sh res oo st∨(sh=true∧∃ js,retO P rs sh res oo (frzs js st))
 | _ => False

def resF (tmps : Array Value) : ResultVar->Sem Value
 | .tmp t => pure (tmps.getD t Go.undef)
 | .cell ad t => do loadVar t (← asAddr (tmps.getD ad Go.undef))
theorem results_eq (fn : Func) (tmps : Array Value) : results fn tmps=(do let vs ← fn.results.mapM (resF tmps); pure (if h : vs.size=1 then vs[0] else .tuple vs)):=by
 have : (fun x => match x with
  | ResultVar.tmp t => pure (tmps.getD t Go.undef)
  | ResultVar.cell a t => do loadVar t (← asAddr (tmps.getD a Go.undef)) : ResultVar->Sem Value)=resF tmps:=by
  funext x; cases x<;>rfl
 rw [← this]
 rfl

theorem resV_spec {Z : Nat->Prop} {β : Nat->Value} {φ : Nat->Nat->Prop} {B : Nat} {M : Nat->Prop} {w0 : World} {st : St} {a : Act} {w : World} (h : SimB Z β φ N B M w0 st a w) : ∀ {rs : List ResultVar} {c avs},resV P st rs=some (c,avs)->c ->
 ∃ vs : List Value,(rs.mapM (resF a.tmps)).run P w=.ok vs w∧vs.length=avs.length ∧
  ∀ i,i < avs.length->Rel β (free Z φ st.o) w (avs.getD i .undef) (vs.getD i Go.undef)
 | [],c,avs,hq,hc => by simp only [resV,Option.some.injEq,Prod.mk.injEq] at hq; obtain ⟨rfl,rfl⟩:=hq; exact ⟨[],by simp,rfl,by simp⟩
 | .tmp t :: r, c, avs, hq, hc => by
   simp only [resV] at hq
   split at hq
   . rename_i v vs h1 h2
     cases hq
     obtain ⟨us,h3,h4,h5⟩:=resV_spec h (rs:=r) h2 hc
     refine ⟨a.tmps.getD t Go.undef :: us,by simp only [List.mapM_cons,resF,Sem.run_bind,Sem.run_pure,Result.andThen_ok,h3],by simp [h4],fun i hi => ?_⟩
     cases i with
     | zero => simpa using h.slots t _ h1
     | succ i => simpa using h5 i (by simpa using hi)
   . cases hq
 | .cell ad t :: r, c, avs, hq, hc => by
   simp only [resV] at hq
   split at hq
   . rename_i v vs h1 h2
     cases hq
     obtain ⟨hu,hc1,hc2⟩:=hc
     obtain ⟨us,h3,h4,h5⟩:=resV_spec h (rs:=r) h2 hc2
     obtain ⟨av,h6,h7⟩:=Option.bind_eq_some_iff.1 h1
     obtain ⟨u,h8,h9⟩:=loadV_spec h (h.slots ad _ h6) h7 hc1 hu
     obtain ⟨q,hq1,hq2⟩ : ∃ q,a.tmps.getD ad Go.undef=.pointer (some q)∧(loadVar t q).run P w=.ok u w:=by
      unfold Instr.loadAt at h8
      generalize a.tmps.getD ad Go.undef=x at h8 ⊢
      cases x with
      | pointer p => cases p with
        | some q => exact ⟨q,rfl,by simpa [Instr.sureAddr] using h8⟩
        | none => simp [Instr.sureAddr,stuck,Sem.run] at h8
      | _ => simp [Instr.sureAddr,stuck,Sem.run] at h8
     have h10 : (resF a.tmps (.cell ad t)).run P w=.ok u w:=by
      simp only [resF,hq1,asAddr,Sem.run_bind,Sem.run_pure,Result.andThen_ok,hq2]
     refine ⟨u :: us,by rw [List.mapM_cons,Sem.run_bind,h10]; simp only [Result.andThen_ok,Sem.run_bind,h3,Sem.run_pure],by simp [h4],fun i hi => ?_⟩
     cases i with
     | zero => simpa using h9
     | succ i => simpa using h5 i (by simpa using hi)
   . cases hq

theorem Ctr.of_bodyO {f : FuncId} {fn : Func} {c : Code} {xs : List D} {sh : Bool} {res : AV} {oo : List (Nat × AO)} (hf : P.funcs[f]? = some fn) (hb : fn.body=some c)
 (hname : (fn.name == "runtime.NumGoroutine") = false) (hlen : xs.length <= fn.ntmps) (hok : codeOK c = true) (hm : P.follows .mixedOrders = true)
 (h : Ok P fn.ntmps c (retQ P fn.results.toList sh res oo) ⟨argsS 0 xs,[]⟩) : Ctr P f xs sh res oo:=by
 refine ⟨⟨fn,hf,by simp [hb],hname⟩,fun S w vs hvl hvr hG => callsIn_wide.1 (callsIn_of_wp_marks (F:=Fence.wide) (n:=0) hf hb trivial (wpIn_wide.2 ?_))⟩
 have hsim : SimB (fun g => w.heap.size<=g∨S g) (fun _ => Go.undef) (fun _ _ => False) fn.ntmps w.heap.size (fun _ => False) w ⟨argsS 0 xs,[]⟩ { tmps:=vs.toArray++Array.replicate (fn.ntmps - vs.toArray.size) Go.undef,defers:=[] } w:=by
  refine ⟨.nil,by simp; omega,fun i av hi => ?_,fun j o hj => by simp [lk] at hj,fun j o g hj => by simp [lk] at hj,fun j j' o o' g hj => by simp [lk] at hj,
   ⟨rfl,rfl,rfl,Nat.le_refl _,Nat.le_refl _,fun _ _ _ => rfl,Nat.le_refl _⟩,fun g hg => .inl (hg.resolve_right (by simp)),hG.sub (Nat.le_refl _) (fun _ _ h => h) (fun _ _ _ h => .inr h) fun _ _ _ => rfl⟩
  obtain ⟨_,h2,rfl⟩:=lk_argsS hi
  simp only [Nat.sub_zero] at h2 ⊢
  have : (vs.toArray++Array.replicate (fn.ntmps - vs.toArray.size) Go.undef).getD i Go.undef=vs.getD i Go.undef:=by
   have h3 : i < vs.length:=by omega
   simp [List.getD_eq_getElem?_getD,Array.getElem?_append,h3]
  rw [this]
  exact argV_rel ((hvr i h2).weaken fun g hg => ⟨.inr hg,by simp [lk]⟩)
 have hwp:=wp_of_sw hm c (h hok hm _ _ _ _ _ _ ⟨_,_,hsim⟩)
 refine wp_mono hwp fun e a' w' hl => ?_
 have fin0 : ∀ (a' : Act) (w' : World) st,Sim (fun g => w.heap.size<=g∨S g) fn.ntmps w.heap.size (fun _ => False) w st a' w'->retQ P fn.results.toList sh res oo .ret st ->
  ∃ v,(results fn a'.tmps).run P w'=.ok v w'∧∃ u,(Ending.returned v)=.returned u∧Fr w.heap.size (fun _ => False) w w' ∧
   ResRel (fun g => w.heap.size<=g∨(sh=true∧S g)) w.heap.size w' res oo u:=by
  rintro a' w' st ⟨β,φ,hB⟩ hq
  obtain ⟨st,hB,hq⟩ : ∃ st',SimB (fun g => w.heap.size<=g∨S g) β φ fn.ntmps w.heap.size (fun _ => False) w st' a' w'∧retO P fn.results.toList sh res oo st':=by
   rcases hq with hq | ⟨_,js,hq⟩
   . exact ⟨st,hB,hq⟩
   . exact ⟨_,hB.frzs,hq⟩
  simp only [retO] at hq
  split at hq
  . rename_i cc avs hrs
    obtain ⟨hc,⟨κ,hav,hobj,hinj⟩,hpl⟩:=hq
    obtain ⟨us,h1,h2,h3⟩:=resV_spec hB hrs hc
    have hrun : (results fn a'.tmps).run P w'=.ok (if h : us.toArray.size=1 then us.toArray[0] else .tuple us.toArray) w':=by
     have hm' : ∀ ra : Array ResultVar,ra.toList=fn.results.toList->(ra.mapM (resF a'.tmps)).run P w'=.ok us.toArray w':=by
      rintro ⟨l⟩ hl
      simp only at hl
      subst hl
      rw [List.mapM_toArray]
      simp [-bind_pure_comp,h1]
     rw [results_eq,Sem.run_bind,hm' fn.results rfl]
     rfl
    have hone : Rel β (free (fun g => w.heap.size<=g∨S g) φ st.o) w' (oneOf avs) (if h : us.toArray.size=1 then us.toArray[0] else .tuple us.toArray):=by
     unfold oneOf
     split
     . rename_i v
       cases us with
       | nil => simp at h2
       | cons u r =>
         have hr : r=[]:=by simpa using h2
         subst hr
         simpa using h3 0 (by simp)
     . rename_i hne
       have : us.length ≠ 1:=fun e => by
        cases avs with
        | nil => simp at h2; rw [h2] at e; simp at e
        | cons v r =>
          have hr : r=[]:=by simp at h2; exact List.eq_nil_of_length_eq_zero (by omega)
          subst hr
          exact hne v rfl
       rw [dif_neg (by simpa using this)]
       exact .tup h2 h3
    have hlko : ∀ {j o},lk j oo=some o->lk (κ j) st.o=some (o.ren κ):=fun hj => hobj _ (lk_some_mem hj)
    have hrel : Rel (fun j => β (κ j)) (free (fun g => w.heap.size<=g∨S g) φ st.o) w' res (if h : us.toArray.size=1 then us.toArray[0] else .tuple us.toArray):=by
     rw [hav] at hone; exact hone.unren
    have hoks : ∀ j o,lk j oo=some o->OK (fun j => β (κ j)) (free (fun g => w.heap.size<=g∨S g) φ st.o) w' o (β (κ j)) (φ (κ j)):=fun j o hj => (hB.objs _ _ (hlko hj)).unren
    have hmv : sh=true->∀ g,free (fun g => w.heap.size<=g∨S g) φ st.o g->g < w'.heap.size ->
     free (fun g => w.heap.size<=g∨(sh=true∧S g)) (fun j => φ (κ j)) oo g∧w'.heap[g]? = w'.heap[g]? := fun hsh g hg _ => by
     refine ⟨⟨hg.1.imp id fun h => ⟨hsh,h⟩,fun j o hj ho => hg.2 _ _ (hlko hj) (ren_res.trans ho)⟩,rfl⟩
    refine ⟨_,hrun,_,rfl,hB.fr,fun j => β (κ j),fun j => φ (κ j),?_,fun j o hj => ?_,fun j o g hj hg => ?_,fun j j' o o' g hj hj' hg hg' => ?_⟩
    . rcases hpl with hsh | hpl
      . exact hrel.move (hmv hsh)
      . exact hrel.plain hpl.1
    . rcases hpl with hsh | hpl
      . exact (hoks j o hj).move (hmv hsh) (Nat.le_refl _) fun _ _ => rfl
      . exact (hoks j o hj).plain (plainO_lk hpl.2 hj)
    . exact (hB.own _ _ g (hlko hj) hg).resolve_right (by simp)
    . exact hinj _ (lk_some_mem hj) _ (lk_some_mem hj') (hB.disj _ _ _ _ g (hlko hj) (hlko hj') hg hg')
  . exact hq.elim
 cases e with
 | normal => obtain ⟨st,⟨β2,φ2,hB2⟩,hq⟩:=hl; exact leaves_marks a'.defers hB2.nd fun w'' h1 h2 h3 h4 h5 h6 => fin0 { a' with defers:=[] } w'' st ⟨β2,φ2,hB2.shut h1 h2 h3 h4 h5 h6⟩ hq
 | ret => obtain ⟨st,⟨β2,φ2,hB2⟩,hq⟩:=hl; exact leaves_marks a'.defers hB2.nd fun w'' h1 h2 h3 h4 h5 h6 => fin0 { a' with defers:=[] } w'' st ⟨β2,φ2,hB2.shut h1 h2 h3 h4 h5 h6⟩ hq
 | exit id => obtain ⟨st,hs,hq⟩:=hl; exact hq.elim
 | goto l => obtain ⟨st,hs,hq⟩:=hl; exact hq.elim
 | panic ch => exact hl.elim
 | outgrown => exact hl.elim

theorem Ctr.of_body {f : FuncId} {fn : Func} {c : Code} {xs : List D} {sh : Bool} {res : AV} {oo : List (Nat × AO)} (hf : P.funcs[f]? = some fn) (hb : fn.body=some c)
 (hname : (fn.name == "runtime.NumGoroutine") = false) (hlen : xs.length <= fn.ntmps) (hok : codeOK c = true) (hm : P.follows .mixedOrders = true)
 (h : awp P fn.ntmps c (retQ P fn.results.toList sh res oo) ⟨argsS 0 xs,[]⟩) : Ctr P f xs sh res oo :=
 Ctr.of_bodyO hf hb hname hlen hok hm (ok_of_awp c _ _ h)
def argW : AV->AV
 | .d y => argV y
 | x => x
theorem argW_rel {β S w x v} (h : Rel β S w x v) : Rel β S w (argW x) v:=by
 unfold argW
 split
 . cases h with | d h => exact argV_rel h
 . exact h
def argsA : Nat->List AV->List (Nat × AV)
 | _,[] => []
 | i,x :: r => argsA (i + 1) r++[(i,argW x)]
theorem lk_argsA {j : Nat} : ∀ {i : Nat} {xs : List AV} {av},lk j (argsA i xs)=some av->i<=j∧j - i < xs.length∧av=argW (xs.getD (j - i) .undef)
 | i,[],av,h => by simp [argsA,lk] at h
 | i, x :: r, av, h => by
   simp only [argsA,lk_app,lk] at h
   split at h
   rotate_left
   . split at h
     . rename_i e; subst e; cases h; simp
     . cases h
   . rename_i v e
     cases h
     obtain ⟨h1,h2,h3⟩:=lk_argsA e
     refine ⟨by omega,by simp; omega,?_⟩
     rw [h3]
     have : j - i=(j - (i + 1)) + 1:=by omega
     rw [this]; simp
def marksA (u : Nat->Value) : List Nat->List (Nat × AV)
 | [] => []
 | j :: r => (1000000000 + j,.hdr j (u j)) :: marksA u r
theorem lk_marksA {u : Nat->Value} {i : Nat} : ∀ {ks : List Nat} {av},lk i (marksA u ks)=some av->∃ j,av=.hdr j (u j)
 | k :: r, av, h => by
   simp only [marksA,lk] at h
   split at h
   . cases h; exact ⟨k,rfl⟩
   . exact lk_marksA h
def keptM (st : St) (u : Nat->Value) (κ : Nat->Nat) : List Nat->Prop
 | [] => True
 | j :: r => κ j=j∧lk (1000000000 + j) st.s=some (.hdr j (u j))∧keptM st u κ r
theorem keptM_mem {st u κ j} : ∀ {ks : List Nat},keptM st u κ ks->j ∈ ks->κ j=j∧lk (1000000000 + j) st.s=some (.hdr j (u j))
 | k :: r, h, hj => by
   rcases List.mem_cons.1 hj with rfl | hj
   . exact ⟨h.1,h.2.1⟩
   . exact keptM_mem h.2.2 hj
def PacksM (st : St) (u : Nat->Value) (keep : List Nat) (av res : AV) (oo : List (Nat × AO)) : Prop :=
 ∃ κ : Nat->Nat,av=res.ren κ∧(∀ p ∈ oo,lk (κ p.1) st.o=some (p.2.ren κ))∧(∀ p ∈ oo,∀ q ∈ oo,κ p.1=κ q.1->p.1=q.1)∧keptM st u κ keep
def retM (P : Program) (rs : List ResultVar) (u : Nat->Value) (keep : List Nat) (sh : Bool) (res : AV) (oo : List (Nat × AO)) : Exit->St->Prop:=fun e st =>
 match e with
 | .normal | .ret => match resV P st rs with
   | some (c,avs) => c∧PacksM st u keep (oneOf avs) res oo∧(sh=true∨(res.plain∧plainO oo))
   | none => False
 | _ => False

def retR (P : Program) (rs : List ResultVar) (u : Nat->Value) (keep : List Nat) (sh : Bool) (R : AV->List (Nat × AO)->Prop) : Exit->St->Prop:=fun e st => ∃ res oo,R res oo∧retM P rs u keep sh res oo e st
theorem retR_eq {P : Program} {rs u keep sh res oo} : retR P rs u keep sh (fun r o => r=res∧o=oo)=retM P rs u keep sh res oo:=by
 funext e st; exact propext ⟨fun ⟨_,_,⟨e1,e2⟩,h⟩ => by rw [← e1,← e2]; exact h,fun h => ⟨_,_,⟨rfl,rfl⟩,h⟩⟩
theorem CtrR.of_bodyO {f : FuncId} {fn : Func} {c : Code} {xs : List AV} {oi : List (Nat × AO)} {keep : List Nat} {sh : Bool} {R : AV->List (Nat × AO)->Prop} (hf : P.funcs[f]? = some fn) (hb : fn.body=some c)
 (hname : (fn.name == "runtime.NumGoroutine") = false) (hlen : xs.length <= fn.ntmps) (hok : codeOK c = true) (hm : P.follows .mixedOrders = true)
 (h : ∀ u,Ok P fn.ntmps c (retR P fn.results.toList u keep sh R) ⟨marksA u keep++argsA 0 xs,oi⟩) : CtrR P f xs oi keep sh R:=by
 refine ⟨⟨fn,hf,by simp [hb],hname⟩,fun S β φ w vs hvl hvr hO hD hG => callsIn_wide.1 (callsIn_of_wp_marks (F:=Fence.wide) (n:=0) hf hb trivial (wpIn_wide.2 ?_))⟩
 have hsim : SimB (fun g => w.heap.size<=g∨blocksOf φ oi g∨S g) β φ fn.ntmps w.heap.size (blocksOf φ oi) w ⟨marksA β keep++argsA 0 xs,oi⟩ { tmps:=vs.toArray++Array.replicate (fn.ntmps - vs.toArray.size) Go.undef,defers:=[] } w:=by
  have hS : ∀ g,free S φ oi g->g < w.heap.size->free (fun g => w.heap.size<=g∨blocksOf φ oi g∨S g) φ oi g∧w.heap[g]? = w.heap[g]? := fun g hg _ => ⟨⟨.inr (.inr hg.1),hg.2⟩,rfl⟩
  refine ⟨.nil,by simp; omega,fun i av hi => ?_,fun j o hj => (hO j o hj).move hS (Nat.le_refl _) fun _ _ => rfl,fun j o g hj hg => .inr ⟨j,o,hj,hg⟩,hD,
   ⟨rfl,rfl,rfl,Nat.le_refl _,Nat.le_refl _,fun _ _ _ => rfl,Nat.le_refl _⟩,fun g hg => hg.imp id fun h => .inl h,hG.sub (Nat.le_refl _) (fun _ _ h => h) (fun _ _ _ h => .inr (.inr h)) fun _ _ _ => rfl⟩
  simp only [lk_app] at hi
  split at hi
  . rename_i v hv
    cases hi
    obtain ⟨j,rfl⟩:=lk_marksA hv
    exact .hdr rfl
  obtain ⟨_,h2,rfl⟩:=lk_argsA hi
  simp only [Nat.sub_zero] at h2 ⊢
  have : (vs.toArray++Array.replicate (fn.ntmps - vs.toArray.size) Go.undef).getD i Go.undef=vs.getD i Go.undef:=by
   have h3 : i < vs.length:=by omega
   simp [List.getD_eq_getElem?_getD,Array.getElem?_append,h3]
  rw [this]
  exact argW_rel ((hvr i h2).move hS)
 have hwp:=wp_of_sw hm c (h β hok hm _ _ _ _ _ _ ⟨_,_,hsim⟩)
 refine wp_mono hwp fun e a' w' hl => ?_
 have fin0 : ∀ (a' : Act) (w' : World) st,Sim (fun g => w.heap.size<=g∨blocksOf φ oi g∨S g) fn.ntmps w.heap.size (blocksOf φ oi) w st a' w'->retR P fn.results.toList β keep sh R .ret st ->
  ∃ v,(results fn a'.tmps).run P w'=.ok v w'∧∃ u res oo,(Ending.returned v)=.returned u∧R res oo∧Fr w.heap.size (blocksOf φ oi) w w' ∧
   ResRelM (fun g => w.heap.size<=g∨blocksOf φ oi g∨(sh=true∧S g)) (fun g => w.heap.size<=g∨blocksOf φ oi g) β keep w' res oo u:=by
  rintro a' w' st ⟨β1,φ1,hB⟩ ⟨res,oo,hR,hq⟩
  simp only [retM] at hq
  split at hq
  . rename_i cc avs hrs
    obtain ⟨hc,⟨κ,hav,hobj,hinj,hkp⟩,hpl⟩:=hq
    obtain ⟨us,h1,h2,h3⟩:=resV_spec hB hrs hc
    have hrun : (results fn a'.tmps).run P w'=.ok (if h : us.toArray.size=1 then us.toArray[0] else .tuple us.toArray) w':=by
     have hm' : ∀ ra : Array ResultVar,ra.toList=fn.results.toList->(ra.mapM (resF a'.tmps)).run P w'=.ok us.toArray w':=by
      rintro ⟨l⟩ hl
      simp only at hl
      subst hl
      rw [List.mapM_toArray]
      simp [-bind_pure_comp,h1]
     rw [results_eq,Sem.run_bind,hm' fn.results rfl]
     rfl
    have hone : Rel β1 (free (fun g => w.heap.size<=g∨blocksOf φ oi g∨S g) φ1 st.o) w' (oneOf avs) (if h : us.toArray.size=1 then us.toArray[0] else .tuple us.toArray):=by
     unfold oneOf
     split
     . rename_i v
       cases us with
       | nil => simp at h2
       | cons u r =>
         have hr : r=[]:=by simpa using h2
         subst hr
         simpa using h3 0 (by simp)
     . rename_i hne
       have : us.length ≠ 1:=fun e => by
        cases avs with
        | nil => simp at h2; rw [h2] at e; simp at e
        | cons v r =>
          have hr : r=[]:=by simp at h2; exact List.eq_nil_of_length_eq_zero (by omega)
          subst hr
          exact hne v rfl
       rw [dif_neg (by simpa using this)]
       exact .tup h2 h3
    have hlko : ∀ {j o},lk j oo=some o->lk (κ j) st.o=some (o.ren κ):=fun hj => hobj _ (lk_some_mem hj)
    have hrel : Rel (fun j => β1 (κ j)) (free (fun g => w.heap.size<=g∨blocksOf φ oi g∨S g) φ1 st.o) w' res (if h : us.toArray.size=1 then us.toArray[0] else .tuple us.toArray):=by
     rw [hav] at hone; exact hone.unren
    have hoks : ∀ j o,lk j oo=some o->OK (fun j => β1 (κ j)) (free (fun g => w.heap.size<=g∨blocksOf φ oi g∨S g) φ1 st.o) w' o (β1 (κ j)) (φ1 (κ j)):=fun j o hj => (hB.objs _ _ (hlko hj)).unren
    have hmv : sh=true->∀ g,free (fun g => w.heap.size<=g∨blocksOf φ oi g∨S g) φ1 st.o g->g < w'.heap.size ->
     free (fun g => w.heap.size<=g∨blocksOf φ oi g∨(sh=true∧S g)) (fun j => φ1 (κ j)) oo g∧w'.heap[g]? = w'.heap[g]? := fun hsh g hg _ => by
     refine ⟨⟨hg.1.imp id fun h => h.imp id fun h => ⟨hsh,h⟩,fun j o hj ho => hg.2 _ _ (hlko hj) (ren_res.trans ho)⟩,rfl⟩
    refine ⟨_,hrun,_,res,oo,rfl,hR,hB.fr,fun j => β1 (κ j),fun j => φ1 (κ j),fun j hj => ?_,?_,fun j o hj => ?_,fun j o g hj hg => ?_,fun j j' o o' g hj hj' hg hg' => ?_⟩
    . obtain ⟨e1,e2⟩:=keptM_mem hkp hj
      simp only [e1]
      cases hB.slots _ _ e2 with | hdr e3 => exact e3
    . rcases hpl with hsh | hpl
      . exact hrel.move (hmv hsh)
      . exact hrel.plain hpl.1
    . rcases hpl with hsh | hpl
      . exact (hoks j o hj).move (hmv hsh) (Nat.le_refl _) fun _ _ => rfl
      . exact (hoks j o hj).plain (plainO_lk hpl.2 hj)
    . exact hB.own _ _ g (hlko hj) hg
    . exact hinj _ (lk_some_mem hj) _ (lk_some_mem hj') (hB.disj _ _ _ _ g (hlko hj) (hlko hj') hg hg')
  . exact hq.elim
 cases e with
 | normal => obtain ⟨st,⟨β2,φ2,hB2⟩,hq⟩:=hl; exact leaves_marks a'.defers hB2.nd fun w'' h1 h2 h3 h4 h5 h6 => fin0 { a' with defers:=[] } w'' st ⟨β2,φ2,hB2.shut h1 h2 h3 h4 h5 h6⟩ hq
 | ret => obtain ⟨st,⟨β2,φ2,hB2⟩,hq⟩:=hl; exact leaves_marks a'.defers hB2.nd fun w'' h1 h2 h3 h4 h5 h6 => fin0 { a' with defers:=[] } w'' st ⟨β2,φ2,hB2.shut h1 h2 h3 h4 h5 h6⟩ hq
 | exit id => obtain ⟨st,hs,_,_,_,hq⟩:=hl; exact hq.elim
 | goto l => obtain ⟨st,hs,_,_,_,hq⟩:=hl; exact hq.elim
 | panic ch => exact hl.elim
 | outgrown => exact hl.elim
theorem CtrR.of_body {f : FuncId} {fn : Func} {c : Code} {xs : List AV} {oi : List (Nat × AO)} {keep : List Nat} {sh : Bool} {R : AV->List (Nat × AO)->Prop} (hf : P.funcs[f]? = some fn) (hb : fn.body=some c)
 (hname : (fn.name == "runtime.NumGoroutine") = false) (hlen : xs.length <= fn.ntmps) (hok : codeOK c = true) (hm : P.follows .mixedOrders = true)
 (h : ∀ u,awp P fn.ntmps c (retR P fn.results.toList u keep sh R) ⟨marksA u keep++argsA 0 xs,oi⟩) : CtrR P f xs oi keep sh R :=
 CtrR.of_bodyO hf hb hname hlen hok hm fun u => ok_of_awp c _ _ (h u)
theorem CtrM.of_body {f : FuncId} {fn : Func} {c : Code} {xs : List AV} {oi : List (Nat × AO)} {keep : List Nat} {sh : Bool} {res : AV} {oo : List (Nat × AO)} (hf : P.funcs[f]? = some fn) (hb : fn.body=some c)
 (hname : (fn.name == "runtime.NumGoroutine") = false) (hlen : xs.length <= fn.ntmps) (hok : codeOK c = true) (hm : P.follows .mixedOrders = true)
 (h : ∀ u,awp P fn.ntmps c (retM P fn.results.toList u keep sh res oo) ⟨marksA u keep++argsA 0 xs,oi⟩) : CtrM P f xs oi keep sh res oo:=by
 refine CtrR.eq (CtrR.of_body hf hb hname hlen hok hm fun u => by rw [retR_eq]; exact h u)
end
end Abs
