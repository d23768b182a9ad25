/- What functions of this program compute, over plain data. No condition. -/
import Derived.Test.YtkccabajcdphkaaGreatAbsBox
import Derived.Test.YtkccabajcdphkaaGreatAbsAny7
set_option linter.all false
namespace Abs
open Go Go.RowKit

theorem Ok.go {P : Program} {N : Nat} {c : Code} {Q : Exit->St->Prop} {st : St} (h : Awp P N c Q st) : Ok P N c Q st:=by
 rw [xj8] at h; exact xg9 _ _ _ h
theorem Ok.seq {P : Program} {N : Nat} {x y : Code} {Q : Exit->St->Prop} {st : St} (h : Ok P N x (seqQ (fun st => Ok P N y Q st) Q) st) : Ok P N (.seq x y) Q st:=fun h1 h2 Z B M w0 a w hs => by
 simp only [xh4,Bool.and_eq_true] at h1
 refine xk9 x (h h1.1 h2 Z B M w0 a w hs) fun e a' w' hl => ?_
 cases e with
 | normal =>
   simp only [lift] at hl
   obtain ⟨st1,hs1,hy⟩:=hl
   exact hy h1.2 h2 Z B M w0 a' w' hs1
 | exit id => exact hl
 | ret => exact hl
 | _ => exact hl
theorem Ok.endsW {P : Program} {N : Nat} {c : Code} {Q : Exit->St->Prop} {st : St} (h : Ok P N c (fun e st => ∃ st',Wk N st st'∧Q e st') st) : Ok P N c Q st:=fun h1 h2 Z B M w0 a w hs =>
 xk9 c (h h1 h2 Z B M w0 a w hs) fun e a w hl => by
  cases e<;>simp only [lift] at hl ⊢<;>(try exact hl.elim) <;>
  . obtain ⟨st1,⟨β,φ,hs1⟩,st2,hw,hq⟩:=hl
    obtain ⟨β',φ',hs2⟩:=hw _ _ _ _ _ _ _ _ hs1
    exact ⟨st2,⟨β',φ',hs2⟩,hq⟩

def tagC (u : Value) : D->D
 | .slice (x :: r) => .tag u (x :: r)
 | c => c
def D.unt : D->D
 | .tag _ es => .slice es
 | c => c
def mapCells (f : Nat->D->D) (k : Nat) (es : List D) : List D:=es.zipIdx.map fun p => match p.1 with
 | .agg cs => .agg (cs.zipIdx.map fun q => f (p.2 * k + q.2) q.1)
 | c => f (p.2 * k) c
def tagE (us : Nat->Value) (k : Nat) (es : List D) : List D:=mapCells (fun i c => tagC (us i) c) k es
def resOf (us : Nat->Value) (es : List D) : List (Value × List D):=(flat es).zipIdx.map fun p => match p.1 with
 | .slice (x :: r) => (us p.2,x :: r)
 | _ => (.slice none 0 0,[])
abbrev Tg:=Value × List Int
def D.tg (p : Tg) : D:=tagC p.1 (.slice (p.2.map (.int .i64)))
def resP (p : Tg) : Value × List D:=match p.2 with
 | [] => (.slice none 0 0,[])
 | x :: r => (p.1,(x :: r).map (.int .i64))
def tgs (us : Nat->Value) (cs : List (List Int)) : List Tg:=cs.zipIdx.map fun p => (us p.2,p.1)
mutual
def D.strip : D->D
 | .tag _ es => .slice es
 | .agg cs => .agg (D.stripL cs)
 | x => x
def D.stripL : List D->List D
 | [] => []
 | x :: r => x.strip :: D.stripL r
end
end Abs

namespace Abs
open Go Go.RowKit

end Abs

namespace Abs
open Go Go.RowKit
def Z7c (P : Program) (N : Nat) (l : List Oper) (K : St->Prop) (st : St) : List (Oper × Nat)->List (Oper × Nat)->Nat->List Bool->List Oper->Prop
 | hs,ts,_,_,[] => HeadW P N l (fst7 hs) st (kH7 P N l hs ts K)
 | hs,ts,k,true :: cs,o :: r => Z7c P N l K st (hs++[(o,k)]) ts (k + 1) cs r
 | hs,ts,k,false :: cs,o :: r => Z7c P N l K st hs (ts++[(o,k)]) (k + 1) cs r
 | _,_,_,[],_ :: _ => False
@[go_sem] theorem Z7c_nil (P N l K st hs ts k cs) : Z7c P N l K st hs ts k cs []=HeadW P N l (fst7 hs) st (kH7 P N l hs ts K):=by cases cs<;>rfl
@[go_sem] theorem Z7c_in (P N l K st hs ts k cs o r) : Z7c P N l K st hs ts k (true :: cs) (o :: r)=Z7c P N l K st (hs++[(o,k)]) ts (k + 1) cs r:=rfl
@[go_sem] theorem Z7c_out (P N l K st hs ts k cs o r) : Z7c P N l K st hs ts k (false :: cs) (o :: r)=Z7c P N l K st hs (ts++[(o,k)]) (k + 1) cs r:=rfl
theorem yz6 {P : Program} {N : Nat} {l : List Oper} {K : St->Prop} {st : St} : ∀ (r : List Oper) (pre cs : List Bool) (hs ts : List (Oper × Nat)),Z7c P N l K st hs ts pre.length cs r ->
 HeadW P N l (fst7 (hs++(r.zipIdx pre.length).filter fun p => (pre++cs).getD p.2 false)) st (kH7 P N l (hs++(r.zipIdx pre.length).filter fun p => (pre++cs).getD p.2 false) (ts++(r.zipIdx pre.length).filter fun p => !(pre++cs).getD p.2 false) K)
 | [],pre,cs,hs,ts,h => by rw [Z7c_nil] at h; simpa using h
 | o :: r,pre,[],hs,ts,h => h.elim
 | o :: r, pre, b :: cs, hs, ts, h => by
   have e : (pre++b :: cs).getD pre.length false=b:=by simp [List.getD_eq_getElem?_getD]
   have e2 : pre++b :: cs=(pre++[b])++cs:=by simp
   rw [List.zipIdx_cons]
   cases b with
   | true =>
     have:=yz6 r (pre++[true]) cs (hs++[(o,pre.length)]) ts (by rw [Z7c_in] at h; simpa using h)
     rw [List.filter_cons_of_pos (by exact e),List.filter_cons_of_neg (by simp only [e]; simp)]
     rw [List.length_append,List.length_singleton,← e2] at this
     simpa only [List.append_assoc,List.singleton_append] using this
   | false =>
     have:=yz6 r (pre++[false]) cs hs (ts++[(o,pre.length)]) (by rw [Z7c_out] at h; simpa using h)
     rw [List.filter_cons_of_neg (by simp only [e]; simp),List.filter_cons_of_pos (by simp only [e]; rfl)]
     rw [List.length_append,List.length_singleton,← e2] at this
     simpa only [List.append_assoc,List.singleton_append] using this
theorem Ok.reg7 {P : Program} {N id : Nat} {ops : Array Oper} {Q : Exit->St->Prop} {st : St} (cls : List Bool) (h7 : ok7 cls ops.toList=true) (h : Z7c P N ops.toList (Q .normal) st [] [] 0 cls ops.toList) : Ok P N (.region id ops true) Q st:=fun h1 h2 Z B M w0 a w hs => by
 have h' : xh8 P N ops.toList ((hs7 cls ops.toList).map (·.1)) st fun st' => yj4 P N ops.toList (hs7 cls ops.toList) (ts7 cls ops.toList) st' (Q .normal):=by
  have h:=yz6 ops.toList [] cls [] [] h
  rw [xj6,← yy6] at h
  have e : ∀ hs ts K,kH7 P N ops.toList hs ts K=fun S => yj4 P N ops.toList hs ts S K:=fun hs ts K => funext fun S => yy2 P N ops.toList hs ts K S
  rw [e] at h
  exact h
 obtain ⟨l⟩:=ops
 exact yk9 h2 h7 (fun st a w hs hk => ⟨st,hs,hk⟩) hs h'
end Abs

namespace Abs
open Go Go.RowKit
def ok8 (cls : List Bool) (l : List Oper) : Bool :=
 let b:=xz6 l
 (l.zipIdx.all fun (o,k) => bif cls.getD k false then o.dst.isSome else isT7 o && o.guard.isNone) &&
 (l.zipIdx.all fun (o,i) => o.after.all fun e => !Region.binds .any e || e.on < i) &&
 (l.zipIdx.all fun (ok,k) => l.zipIdx.all fun (om,m) => (k == m || match om.dst with | some s => ok.dst != some s | none => true) &&
  (match om.dst with | some s => !(xd8 l ok).contains s || ((b.getD k 0).testBit m && (!cls.getD k false || cls.getD m false)) || (!cls.getD m false && Nat.blt k m && (b.getD m 0).testBit k) | none => true))
structure Checked8 (cls : List Bool) (l : List Oper) : Prop where
 hd : ∀ (k : Nat) (o : Oper),l[k]? = some o->cls.getD k false=true->∃ d,o.dst=some d
 tl : ∀ (k : Nat) (o : Oper),l[k]? = some o->cls.getD k false=false->isT7 o=true∧o.guard=none
 back : ∀ (i : Nat) (o : Oper),l[i]? = some o->∀ e ∈ o.after,Region.binds .any e=true->e.on < i
 apart : ∀ (k m : Nat) (ok om : Oper) (s : Nat),l[k]? = some ok->l[m]? = some om->k ≠ m->om.dst=some s->ok.dst ≠ some s
 looked : ∀ (k m : Nat) (ok om : Oper) (s : Nat),l[k]? = some ok->l[m]? = some om->om.dst=some s->s ∈ xd8 l ok->(Dep l k m∧(cls.getD k false=true->cls.getD m false=true))∨(cls.getD m false=false∧k < m)
theorem ok8_spec {cls : List Bool} {l : List Oper} (h : ok8 cls l=true) : Checked8 cls l:=by
 unfold ok8 at h
 simp only [Bool.and_eq_true] at h
 obtain ⟨⟨h1,h2⟩,h3⟩:=h
 have zip : ∀ {p : Oper × Nat->Bool},l.zipIdx.all p=true->∀ i o,l[i]? = some o->p (o,i)=true:=by
  intro p hp i o ho
  rw [List.all_eq_true] at hp
  exact hp _ (List.mem_iff_getElem?.2 ⟨i,by simp [List.getElem?_zipIdx,ho]⟩)
 have h3' : ∀ k m ok om,l[k]? = some ok->l[m]? = some om->_:=fun k m ok om hk hm => zip (zip h3 k ok hk) m om hm
 refine ⟨fun k o hk hc => ?_,fun k o hk hc => ?_,fun i o ho e he hb => ?_,fun k m ok om s hk hm hne hs hd => ?_,fun k m ok om s hk hm hs hl => ?_⟩
 . have:=zip h1 k o hk
   rw [hc] at this
   exact Option.isSome_iff_exists.1 this
 . have:=zip h1 k o hk
   rw [hc] at this
   simp only [cond_false,Bool.and_eq_true] at this
   exact ⟨this.1,Option.isNone_iff_eq_none.1 this.2⟩
 . have:=zip h2 i o ho
   simp only [Array.all_eq_true_iff_forall_mem] at this
   have:=this e he
   simp [hb] at this
   exact this
 . have:=h3' k m ok om hk hm
   simp only [hs,Bool.and_eq_true,Bool.or_eq_true,beq_iff_eq,bne_iff_ne,ne_eq] at this
   exact this.1.resolve_left hne hd
 . have:=h3' k m ok om hk hm
   simp only [hs,Bool.and_eq_true] at this
   have h4:=this.2
   have h5 : (xd8 l ok).contains s=true:=by simpa using hl
   rw [h5] at h4
   simp only [Bool.not_true,Bool.false_or,Bool.or_eq_true,Bool.and_eq_true] at h4
   rcases h4 with h4 | h4
   . exact .inl ⟨xe5 h4.1,fun hh => by have:=h4.2; rw [hh] at this; simpa using this⟩
   . exact .inr ⟨by simpa using h4.1.1,by simpa using h4.1.2⟩
section
variable {P : Program} {Z : Nat->Prop} {β : Nat->Value} {φ : Nat->Nat->Prop} {N B : Nat} {M : Nat->Prop} {w0 : World} {st : St} {a : Act} {w : World}
def ys1 (l : List Oper) (R : List (Oper × Nat)) (p : Oper × Nat) : Bool:=R.all fun q => !((xz6 l).getD p.2 0).testBit q.2
def yj3 (P : Program) (N : Nat) (l : List Oper) (hs : List (Oper × Nat)) : Nat->List (Oper × Nat)->St->(St->Prop)->Prop
 | _,[],S,K => K S
 | 0,_ :: _,_,_ => False
 | n + 1,p :: r,S,K => ∀ q ∈ p :: r,ys1 l (p :: r) q=true->xm2 P N l S q.1 fun S' => xh8 P N l (xh1 l q.2 hs) S' (fun S'' => xw1 S' S'' (xh1 l q.2 hs))∧yj3 P N l hs n ((p :: r).filter fun x => x.2 != q.2) S' K
theorem zb5 {P N l hs n S K} : yj3 P N l hs n [] S K=K S:=by cases n<;>rfl
theorem tail8_step {P N l hs n S K} {R : List (Oper × Nat)} {o : Oper} {i : Nat} (h : yj3 P N l hs n R S K) (hm : (o,i) ∈ R) (hq : ys1 l R (o,i)=true) :
 ∃ n',xm2 P N l S o fun S' => xh8 P N l (xh1 l i hs) S' (fun S'' => xw1 S' S'' (xh1 l i hs))∧yj3 P N l hs n' (R.filter fun x => x.2 != i) S' K:=by
 cases R with
 | nil => cases hm
 | cons p r =>
   cases n with
   | zero => exact h.elim
   | succ n => exact ⟨n,h _ hm hq⟩
theorem zg1 {cls : List Bool} {l : List Oper} (hX : Checked8 cls l) {S : St} {r : List Oper} (hr : r.Sublist ((hs7 cls l).map (·.1))) {K : St->Prop} (h : xh8 P N l r S K) :
 ∃ Sn,K Sn∧Sn.o=S.o∧(∀ s,(∀ o ∈ r,o.dst ≠ some s)->lk s Sn.s=lk s S.s)∧∀ o ∈ r,zv2 P N l Sn o:=by
 have hback : ∀ {k m},Dep l k m->m < k:=by
  intro k m h
  induction h with
  | direct h he hb hm => subst hm; exact hX.back _ _ h _ he hb
  | trans _ _ h1 h2 => omega
 have hpw : (l.zipIdx).Pairwise fun p p' => cls.getD p'.2 false=true->p.1.dst ≠ .none->p'.1.dst ≠ .none->p.1.dst ≠ p'.1.dst∧∀ s ∈ xd8 l p.1,p'.1.dst ≠ some s:=by
  rw [List.pairwise_iff_getElem]
  intro i j hi hj hij
  simp only [List.getElem_zipIdx,Nat.zero_add]
  have hli : i < l.length:=by simpa using hi
  have hlj : j < l.length:=by simpa using hj
  intro h0 h1 h2
  have hgi : l[i]? = some l[i]:=by simp [hli]
  have hgj : l[j]? = some l[j]:=by simp [hlj]
  refine ⟨fun e => ?_,fun s hs' hd => ?_⟩
  . obtain ⟨d,hd⟩:=Option.ne_none_iff_exists'.1 h2
    exact hX.apart i j _ _ d hgi hgj (by omega) hd (e.trans hd)
  . rcases hX.looked i j _ _ s hgi hgj hd hs' with h | h
    . have:=hback h.1; omega
    . have h1:=h.1; rw [h0] at h1; cases h1
 have hpw2 : (hs7 cls l).Pairwise fun p p' => p.1.dst ≠ p'.1.dst∧∀ s ∈ xd8 l p.1,p'.1.dst ≠ some s:=by
  refine List.Pairwise.imp_of_mem (fun {p p'} hp hp' h => ?_) (hpw.sublist List.filter_sublist)
  have a1:=List.mem_filter.1 hp
  have a2:=List.mem_filter.1 hp'
  obtain ⟨d1,e1⟩:=hX.hd _ _ (xq3 (cls:=cls) p a1.1) a1.2
  obtain ⟨d2,e2⟩:=hX.hd _ _ (xq3 (cls:=cls) p' a2.1) a2.2
  exact h a2.2 (by rw [e1]; simp) (by rw [e2]; simp)
 have hmem : ∀ o ∈ r,∃ k,l[k]? = some o∧cls.getD k false=true:=fun o ho => by
  obtain ⟨p,hp,e⟩:=List.mem_map.1 (hr.subset ho)
  have a1:=List.mem_filter.1 hp
  exact ⟨p.2,by rw [← e]; exact xq3 (cls:=cls) p a1.1,a1.2⟩
 obtain ⟨stn,h3,h4,h5,h6⟩:=xu7 h (List.Pairwise.sublist hr (by
  rw [List.pairwise_map]; exact hpw2)) fun o ho s hs' hd => by
  obtain ⟨k,hk,_⟩:=hmem o ho
  rcases hX.looked k k _ _ s hk hk hd hs' with h | h
  . have:=hback h.1; omega
  . have:=h.2; omega
 exact ⟨stn,h3,h4,h5,fun o ho => h6 o ho⟩
theorem any8 {cls : List Bool} {l : List Oper} (hC : Checked8 cls l) {K : St->Prop} {Q : Exit->Act->World->Prop} (hQ : ∀ st a w,Sim Z N B M w0 st a w->K st->Q .normal a w) :
 ∀ (fuel : Nat) (listed : Array Bool) (st Sp : St) (a : Act) (w : World),listed.size=l.length->xp6 l listed->fuel=(List.range l.length).countP (fun k => !listed.getD k false) ->
  (∃ n,yj3 P N l (hs7 cls l) n (xi6 cls l listed) Sp K)->st.o=Sp.o ->
  (∀ s,(∀ (k : Nat) (o : Oper),l[k]? = some o->cls.getD k false=true->listed.getD k false=false->o.dst ≠ some s)->lk s st.s=lk s Sp.s) ->
  (∀ (k : Nat) (o : Oper),l[k]? = some o->cls.getD k false=true->listed.getD k false=false->zv2 P N l Sp o) ->
  Sim Z N B M w0 st a w->wpAny P .any l.toArray Q fuel listed a w:=by
 intro fuel
 induction fuel with
 | zero =>
   intro listed st Sp a w hsz hcl hcnt hK ho hlk hal hs
   have hall : ∀ k,k < l.length->listed.getD k false=true:=fun k hk => by
    have:=List.countP_eq_zero.1 hcnt.symm k (List.mem_range.2 hk)
    simpa using this
   refine ⟨?_,?_⟩
   . cases hr : Region.ready .any l.toArray listed with
     | nil => rfl
     | cons x xs =>
       have hx : x ∈ Region.ready .any l.toArray listed:=by rw [hr]; simp
       obtain ⟨h1,o,hoo,_⟩:=xd2.1 hx
       have hxl:=(List.getElem?_eq_some_iff.1 hoo).1
       have : listed.getD x true=listed.getD x false:=by simp [show x < listed.size by omega]
       rw [this,hall x hxl] at h1
       cases h1
   . have hr : xi6 cls l listed=[]:=by
      unfold xi6
      rw [List.filter_eq_nil_iff]
      intro p hp
      have h1:=xq3 (cls:=cls) p (List.mem_filter.1 hp).1
      rw [hall p.2 (List.getElem?_eq_some_iff.1 h1).1]; simp
     rw [hr] at hK
     obtain ⟨n,hK⟩:=hK
     rw [zb5] at hK
     refine hQ Sp a w ?_ hK
     exact hs.congr2 (fun s => (hlk s fun k o hk _ hf => by rw [hall k (List.getElem?_eq_some_iff.1 hk).1] at hf; cases hf).symm) fun j => by rw [ho]
 | succ fuel ih =>
   intro listed st Sp a w hsz hcl hcnt hK ho hlk hal hs
   refine ⟨fun h0 => ?_,fun i hi => ?_⟩
   . exfalso
     have h1 : ∃ k,k < l.length∧listed.getD k false=false:=by
      refine Classical.byContradiction fun hno => ?_
      have : (List.range l.length).countP (fun k => !listed.getD k false)=0:=by
       rw [List.countP_eq_zero]; intro k hk
       cases hh : listed.getD k false with
       | true => simp
       | false => exact absurd ⟨k,List.mem_range.1 hk,hh⟩ hno
      omega
     have hex : ∃ k,k < l.length∧listed.getD k false=false∧∀ m,m < k->listed.getD m false=true:=by
      obtain ⟨k,hk⟩:=h1
      induction k using Nat.strongRecOn with
      | _ k ihk =>
        by_cases h2 : ∃ m,m < k∧listed.getD m false=false
        . obtain ⟨m,hm,hm2⟩:=h2
          exact ihk m hm ⟨by omega,hm2⟩
        . refine ⟨k,hk.1,hk.2,fun m hm => ?_⟩
          cases hh : listed.getD m false with
          | true => rfl
          | false => exact absurd ⟨m,hm,hh⟩ h2
     obtain ⟨k,hkl,hkf,hkm⟩:=hex
     have : k ∈ Region.ready .any l.toArray listed:=by
      rw [xd2]
      refine ⟨?_,l[k],by simp [hkl],fun e he hb => hkm _ (hC.back k l[k] (by simp [hkl]) e he hb)⟩
      have : listed.getD k true=listed.getD k false:=by simp [show k < listed.size by omega]
      rw [this]; exact hkf
     rw [h0] at this; cases this
   . obtain ⟨h1,o,hoi,h2⟩:=xd2.1 hi
     have hil:=(List.getElem?_eq_some_iff.1 hoi).1
     have hlt : i < listed.size:=by omega
     have hif : listed.getD i false=false:=by
      have : listed.getD i true=listed.getD i false:=by simp [hlt]
      rw [← this]; exact h1
     have hdep : ∀ {m},Dep l i m->listed.getD m false=true:=fun hd => hcl.ready hd fun o' ho' => by rw [hoi] at ho'; cases ho'; exact h2
     have hlooked : ∀ s ∈ xd8 l o,lk s st.s=lk s Sp.s:=fun s hs' => hlk s fun k ok hk hhk hkf hkd => by
      rcases hC.looked i k o ok s hoi hk hkd hs' with h | h
      . have:=hdep h.1; rw [hkf] at this; cases this
      . have:=h.1; rw [hhk] at this; cases this
     have hcount : fuel=(List.range l.length).countP (fun k => !(listed.setIfInBounds i true).getD k false):=by
      have hmem : i ∈ List.range l.length:=List.mem_range.2 hil
      have hgen : ∀ (r : List Nat),r.Nodup->i ∈ r->r.countP (fun k => !listed.getD k false)=r.countP (fun k => !(listed.setIfInBounds i true).getD k false) + 1:=by
       intro r
       induction r with
       | nil => intro _ h; cases h
       | cons x r ihr =>
         intro hnd hm
         rw [List.nodup_cons] at hnd
         by_cases hx : i=x
         . subst hx
           have hrest : r.countP (fun k => !listed.getD k false)=r.countP (fun k => !(listed.setIfInBounds i true).getD k false):=by
            apply List.countP_congr
            intro k hk
            rw [xb5 hlt,if_neg (show ¬ k=i from fun e => hnd.1 (by rw [← e]; exact hk))]
           rw [List.countP_cons,List.countP_cons,hrest,hif,xb5 hlt,if_pos rfl]
           simp
         . have hmr : i ∈ r:=by
            rcases List.mem_cons.1 hm with h | h
            . exact absurd h hx
            . exact h
           rw [List.countP_cons,List.countP_cons,ihr hnd.2 hmr,xb5 hlt,if_neg (Ne.symm hx)]
           omega
      have:=hgen _ List.nodup_range hmem
      omega
     unfold wpOp
     have ho' : (l.toArray)[i]? = some o:=by simpa using hoi
     rw [ho']
     simp only
     have hset : ∀ {k : Nat},(listed.setIfInBounds i true).getD k false=false->listed.getD k false=false∧k ≠ i:=fun {k} h => by
      rw [xb5 hlt] at h
      split at h
      . cases h
      . rename_i e; exact ⟨h,e⟩
     cases hci : cls.getD i false with
     | false =>
       obtain ⟨hT,hg⟩:=hC.tl i o hoi hci
       have hzi : (o,i) ∈ l.zipIdx:=List.mem_iff_getElem?.2 ⟨i,by simp [List.getElem?_zipIdx,hoi]⟩
       have hmR : (o,i) ∈ xi6 cls l listed:=List.mem_filter.2 ⟨List.mem_filter.2 ⟨hzi,by simp only [hci]; rfl⟩,by simp only [hif]; rfl⟩
       have hmin : ys1 l (xi6 cls l listed) (o,i)=true:=by
        unfold ys1
        rw [List.all_eq_true]
        intro p hp
        have hpf:=(List.mem_filter.1 hp).2
        cases hb : ((xz6 l).getD i 0).testBit p.2 with
        | false => rfl
        | true => rw [hdep (xe5 hb)] at hpf; cases hpf
       have hrest : (xi6 cls l listed).filter (fun x => x.2 != i)=xi6 cls l (listed.setIfInBounds i true):=by
        unfold xi6
        rw [List.filter_filter]
        apply List.filter_congr
        intro p _
        rw [xb5 hlt]
        by_cases e : p.2=i
        . rw [if_pos e]; simp [e]
        . rw [if_neg e]; simp [e]
       obtain ⟨n,hK⟩:=hK
       obtain ⟨n',hK⟩:=tail8_step hK hmR hmin
       rw [hrest] at hK
       have hst:=xl6 hs (yl4 (st':=st) hT hg hlooked ho hK) (K':=wpAny P .any l.toArray Q fuel (listed.setIfInBounds i true)) (Q:=Q) fun q' a' w' hs' ⟨q,⟨hkeep,hk⟩,hF⟩ => by
        refine ih _ q' q a' w' (by simpa using hsz) (hcl.set hsz hi) hcount ⟨_,hk⟩ hF.1 (fun s hs2 => hF.2 s ?_) (fun k ok hkk hhk hkf => ?_) hs'
        . by_cases hds : o.dst=some s
          . exact .inr hds
          . refine .inl (hlk s fun k ok hkk hhk hkf => hs2 k ok hkk hhk ?_)
            rw [xb5 hlt,if_neg]
            . exact hkf
            . rintro rfl; rw [hci] at hhk; cases hhk
        . -- what was not listed is alive
          obtain ⟨hkf',hki⟩:=hset hkf
          have hnm : ((xz6 l).getD i 0).testBit k=false:=by
           cases hb : ((xz6 l).getD i 0).testBit k with
           | false => rfl
           | true => rw [hdep (xe5 hb)] at hkf'; cases hkf'
          have hmemf : ok ∈ xh1 l i (hs7 cls l):=by
           refine List.mem_map.2 ⟨(ok,k),List.mem_filter.2 ⟨List.mem_filter.2 ⟨List.mem_iff_getElem?.2 ⟨k,by simp [List.getElem?_zipIdx,hkk]⟩,hhk⟩,?_⟩,rfl⟩
           simp only [hnm]; rfl
          obtain ⟨Sn,g1,g2,g3,g4⟩:=zg1 hC (List.Sublist.map _ List.filter_sublist) hkeep
          obtain ⟨x,k1,k2⟩:=g4 ok hmemf
          have hslots : ∀ s,lk s q.s=lk s Sn.s:=fun s => by
           by_cases hw : ∃ o' ∈ xh1 l i (hs7 cls l),o'.dst=some s
           . obtain ⟨o',h5,h6⟩:=hw
             exact (yf5 g1 o' h5 s h6).symm
           . exact (g3 s fun o' h5 h6 => hw ⟨o',h5,h6⟩).symm
          exact ⟨x,xq2 ⟨g2.symm,fun s _ => hslots s⟩ k1,fun d hd => (hslots d).trans (k2 d hd)⟩
       split
       . rename_i hw; rw [if_pos hw] at hst; exact .inl hst
       . rename_i hw; rw [if_neg hw] at hst; exact hst
     | true =>
       obtain ⟨d,hd⟩:=hC.hd i o hoi hci
       obtain ⟨x,hY,hx⟩:=hal i o hoi hci hif
       have hYst : Yl P N l st o x:=xq2 ⟨ho,hlooked⟩ hY
       have hst:=xy4 hs hYst (K':=wpAny P .any l.toArray Q fuel (listed.setIfInBounds i true)) (Q:=Q) fun a' w' hs' => by
        refine ih _ _ Sp a' w' (by simpa using hsz) (hcl.set hsz hi) hcount ?_ (by rw [hd]; exact ho) (fun s hs2 => ?_) (fun k ok hkk hhk hkf => hal k ok hkk hhk (hset hkf).1) hs'
        . have : xi6 cls l (listed.setIfInBounds i true)=xi6 cls l listed:=by
           unfold xi6
           apply List.filter_congr
           intro p hp
           have:=(List.mem_filter.1 hp).2
           rw [xb5 hlt,if_neg]
           rintro e
           rw [e,hci] at this; cases this
          rw [this]; exact hK
        . rw [xp4]
          split
          . rename_i hds
            exact (hx s hds).symm
          . rename_i hds
            refine hlk s fun k ok hk hhk hkf => ?_
            by_cases e : k=i
            . subst e; rw [hoi] at hk; cases hk; exact hds
            . exact hs2 k ok hk hhk (by rw [xb5 hlt,if_neg e]; exact hkf)
       split
       . rename_i hw; rw [if_pos hw] at hst; exact .inl hst
       . rename_i hw; rw [if_neg hw] at hst; exact hst

theorem wp_drawn8 {id : Nat} {cls : List Bool} {l : List Oper} {K : St->Prop} {Q : Exit->Act->World->Prop} {st : St} {a : Act} {w : World} (hm : P.follows .mixedOrders=true) (hc : ok8 cls l=true)
 (hQ : ∀ st a w,Sim Z N B M w0 st a w->K st->Q .normal a w) (hs : Sim Z N B M w0 st a w)
 (hq : xh8 P N l ((hs7 cls l).map (·.1)) st fun st' => yj3 P N l (hs7 cls l) l.length (ts7 cls l) st' K) :
 SW P (Code.region id l.toArray true) Q a w:=by
 have hC:=ok8_spec hc
 obtain ⟨Sn,hK,ho,hlk,hY⟩:=zg1 hC (List.Sublist.refl _) hq
 show wpAny P .any l.toArray Q l.toArray.size (Array.replicate l.toArray.size false) a { w with drawn:=w.drawn + 1 }
 have hfalse : ∀ k,(Array.replicate l.length false).getD k false=false:=fun k => by
  rcases Nat.lt_or_ge k l.length with h | h
  . simp [h]
  . simp [h]
 have hmem : ∀ k o,l[k]? = some o->cls.getD k false=true->o ∈ (hs7 cls l).map (·.1):=fun k o hk hk2 => List.mem_map.2 ⟨(o,k),List.mem_filter.2 ⟨List.mem_iff_getElem?.2 ⟨k,by simp [List.getElem?_zipIdx,hk]⟩,hk2⟩,rfl⟩
 have:=any8 (P:=P) hC hQ l.length (Array.replicate l.length false) st Sn a { w with drawn:=w.drawn + 1 } (by simp) (fun k o _ hk => by rw [hfalse k] at hk; cases hk)
  (by
   have : (List.range l.length).countP (fun k => !(Array.replicate l.length false).getD k false)=(List.range l.length).length:=by
    rw [List.countP_eq_length]; intro k _; rw [hfalse k]; rfl
   rw [this]; simp)
  (by
   have : xi6 cls l (Array.replicate l.length false)=ts7 cls l:=by
    unfold xi6
    rw [List.filter_eq_self]; intro p _; rw [hfalse]; rfl
   rw [this]; exact ⟨_,hK⟩) ho.symm (fun s hs' => (hlk s fun o ho' hd => by
    obtain ⟨p,hp,e⟩:=List.mem_map.1 ho'
    have a1:=List.mem_filter.1 hp
    exact hs' p.2 o (by rw [← e]; exact xq3 (cls:=cls) p a1.1) a1.2 (hfalse _) hd).symm)
  (fun k o hk hk2 _ => hY o (hmem k o hk hk2))
  (by obtain ⟨β,φ,hB⟩:=hs; exact ⟨β,φ,hB.drawn⟩)
 simpa using this
end
end Abs
