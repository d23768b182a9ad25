/- Owned trees: a part is taken out, put back, laid in, and what becomes of the abstract state. No condition. -/
import Derived.Test.YtiafnejjhnjbfaaDoorAbsLoud
set_option linter.all false
namespace Abs
open Go Go.RowKit

def killL : List Nat->St->St
 | [],st => st
 | k :: r,st => killL r (st.kill k)
theorem lk_killL {k : Nat} : ∀ {ks : List Nat} {st : St} {o},lk k (killL ks st).o=some o->k ∉ ks∧∃ o',lk k st.o=some o'
 | [],st,o,h => ⟨by simp,o,h⟩
 | j :: r, st, o, h => by
   obtain ⟨h1,o',h2⟩:=lk_killL (ks:=r) (st:=st.kill j) h
   obtain ⟨h3,o2,h4,_⟩:=lk_wipeO h2
   exact ⟨by simp; exact ⟨h3,h1⟩,o2,h4⟩
theorem killL_s {i : Nat} : ∀ {ks : List Nat} {st : St} {v},lk i (killL ks st).s=some v->v=.undef∨(lk i st.s=some v∧∀ k ∈ ks,v.has k=false)
 | [],st,v,h => .inr ⟨h,by simp⟩
 | k :: r, st, v, h => by
   rcases killL_s (ks:=r) (st:=st.kill k) h with h1 | ⟨h1,h2⟩
   . exact .inl h1
   . obtain ⟨h3,h4⟩:=lk_wipeS h1
     rcases h4 with h4 | h4
     . exact .inl h4
     . exact .inr ⟨h4,fun j hj => by
        rcases List.mem_cons.1 hj with rfl | hj
        . exact h3
        . exact h2 j hj⟩
theorem killL_o {k : Nat} : ∀ {ks : List Nat} {st : St} {o : AO},lk k (killL ks st).o=some o->k ∉ ks∧∃ o',lk k st.o=some o' ∧
 ∀ (β β' : Nat->Value) S w v F,(∀ i,i ∉ ks->β' i=β i)->OK β S w o' v F->OK β' S w o v F
 | [],st,o,h => ⟨by simp,o,h,fun β β' S w v F he hO => by
  have : β'=β:=funext fun i => he i (by simp)
  rw [this]; exact hO⟩
 | j :: r, st, o, h => by
   obtain ⟨h1,o',h2,h3⟩:=killL_o (ks:=r) (st:=st.kill j) h
   obtain ⟨h4,o2,h5,rfl⟩:=lk_wipeO h2
   refine ⟨by simp; exact ⟨h4,h1⟩,o2,h5,fun β β' S w v F he hO => ?_⟩
   refine h3 (upd β j (β' j)) β' S w v F (fun i hi => ?_) (hO.wipe upd_ne)
   by_cases e : i=j
   . subst e; rw [upd_eq]
   . rw [upd_ne i e]; exact he i (by simp; exact ⟨e,hi⟩)

theorem killL_res {k : Nat} : ∀ {ks : List Nat} {st : St} {o o' : AO},lk k (killL ks st).o=some o->lk k st.o=some o'->o'.isRes=o.isRes
 | [], st, o, o', h, h' => by
   have : some o=some o':=h.symm.trans h'
   cases this; rfl
 | j :: r, st, o, o', h, h' => by
   obtain ⟨_,o1,h1⟩:=lk_killL (ks:=r) h
   rw [← killL_res (ks:=r) h h1]
   obtain ⟨_,o2,h2,rfl⟩:=lk_wipeO h1
   have : some o2=some o':=h2.symm.trans h'
   cases this; exact wipe_res.symm
def setC (es : List D) (i fo : Nat) (ds : List D) : List D:=es.set i (bif (el es i).isAgg then .agg (setL (el es i).cells fo ds) else ds.getD 0 .nilptr)

theorem flat_set {es : List D} {k : Nat} (hk : ∀ e ∈ es,e.cells.length=k) {i y} (hi : i < es.length) (hy : y.cells.length=k) : flat (es.set i y)=setL (flat es) (i * k) y.cells:=by
 induction es generalizing i with
 | nil => simp at hi
 | cons x r ih =>
   have hx:=hk x (by simp)
   cases i with
   | zero =>
     simp only [flat,List.set_cons_zero,List.flatMap_cons,setL,Nat.zero_mul,List.take_zero,List.nil_append,Nat.zero_add,hy]
     rw [List.drop_append_of_le_length (by omega),List.drop_of_length_le (by omega),List.nil_append]
   | succ i =>
     have:=ih (fun e he => hk e (by simp [he])) (i:=i) (by simpa using hi)
     simp only [flat,List.set_cons_succ,List.flatMap_cons,setL] at this ⊢
     rw [this,Nat.add_mul,Nat.one_mul]
     rw [List.take_append,List.drop_append,List.drop_of_length_le (l:=x.cells) (by omega),List.take_of_length_le (l:=x.cells) (by omega),List.nil_append,List.append_assoc,List.append_assoc,List.append_assoc]
     congr 3
     . omega
     . congr 1; omega

theorem cells_nonagg {x : D} (h : x.isAgg=false) : x.cells=[x]:=cells_one h
theorem flat_setC {es : List D} {k i fo : Nat} {ds : List D} (hk : ∀ x ∈ es,x.cells.length=k) (hi : i < es.length) (hfo : fo + ds.length<=k) (h0 : 0 < ds.length) (hna : ∀ d ∈ ds,d.isAgg=false) :
 flat (setC es i fo ds)=setL (flat es) (i * k + fo) ds∧(∀ x ∈ setC es i fo ds,x.cells.length=k):=by
 have hel : (el es i).cells.length=k:=hk _ (el_mem hi)
 cases ha : (el es i).isAgg with
 | true =>
   have hnew : (D.agg (setL (el es i).cells fo ds)).cells.length=k:=by show (setL (el es i).cells fo ds).length=k; rw [setL_length (by omega),hel]
   have hks : ∀ x ∈ es.set i (.agg (setL (el es i).cells fo ds)),x.cells.length=k:=fun x hx => by
    rcases List.mem_or_eq_of_mem_set hx with hx | rfl
    . exact hk x hx
    . exact hnew
   unfold setC
   rw [ha,cond_true]
   refine ⟨?_,hks⟩
   have fl:=flat_length hk
   have hle : i * k + k<=es.length * k:=by
    have : (i + 1) * k<=es.length * k:=Nat.mul_le_mul_right k (by omega)
    rwa [Nat.add_mul,Nat.one_mul] at this
   have fls:=flat_length hks
   rw [List.length_set] at fls
   apply List.ext_getElem
   . rw [setL_length (by omega),fl,fls]
   . intro ii h1 h2
     have e1 : ∀ (l : List D) (h : ii < l.length),l[ii]=l.getD ii .nilptr:=fun l h => by simp [List.getD_eq_getElem?_getD,h]
     rw [e1,e1,setL_getD (by omega)]
     by_cases g1 : i * k<=ii∧ii < i * k + k
     . have e2 : ii=i * k + (ii - i * k):=by omega
       have e3 : (flat (es.set i (.agg (setL (el es i).cells fo ds)))).getD ii .nilptr=(setL (el es i).cells fo ds).getD (ii - i * k) .nilptr:=by
        conv => lhs; rw [e2]
        rw [flat_getD hks (by simpa using hi) (by omega)]
        simp [el,List.getD_eq_getElem?_getD,hi,D.cells]
       have e4 : (flat es).getD ii .nilptr=(el es i).cells.getD (ii - i * k) .nilptr:=by
        conv => lhs; rw [e2]
        rw [flat_getD hk hi (by omega)]
       rw [e3,setL_getD (by omega),e4]
       by_cases g2 : i * k + fo<=ii∧ii < i * k + fo + ds.length
       . rw [if_pos g2,if_pos (by omega)]; congr 1; omega
       . rw [if_neg g2,if_neg (by omega)]
     . rw [if_neg (by omega)]
       have hlt : ii < es.length * k:=by omega
       have hk0 : 0 < k:=by omega
       have hdm : ii / k < es.length∧ii % k < k∧ii / k * k + ii % k=ii:=⟨(Nat.div_lt_iff_lt_mul hk0).2 hlt,Nat.mod_lt _ hk0,by rw [Nat.mul_comm]; exact Nat.div_add_mod _ _⟩
       have hne : ii / k ≠ i:=by
        intro e
        rw [e] at hdm
        omega
       obtain ⟨d1,d2,d3⟩:=hdm
       rw [← d3,flat_getD hks (by simpa using d1) d2,flat_getD hk d1 d2]
       congr 2
       simp [el,List.getD_eq_getElem?_getD,List.getElem?_set,Ne.symm hne]
 | false =>
   have hc:=cells_nonagg ha
   have hk1 : k=1:=by rw [hc] at hel; simpa using hel.symm
   subst hk1
   obtain ⟨d,rfl⟩ : ∃ d,ds=[d]:=List.length_eq_one_iff.1 (by omega)
   have hfo0 : fo=0:=by simp at hfo; omega
   subst hfo0
   have hd:=cells_nonagg (hna d (by simp))
   unfold setC
   rw [ha,cond_false]
   simp only [List.getD_cons_zero]
   have h1:=flat_set (y:=d) hk hi (by rw [hd]; rfl)
   rw [hd] at h1
   exact ⟨by simpa using h1,fun x hx => by
    rcases List.mem_or_eq_of_mem_set hx with hx | rfl
    . exact hk x hx
    . rw [hd]; rfl⟩

theorem ownBlock_uniq {v : Value} {a b : Nat} (h : v.ownBlock=some a) (h' : v.ownBlock=some b) : a=b:=by rw [h] at h'; cases h'; rfl

theorem DpR.put {β : Nat->Value} {w w' : World} {e k es v F xs fs} (h : DpR β w e k es none v F xs fs) {i fo b : Nat} {ds : List D} {us : List Value} {gs : Nat->Nat->Prop} {F' : Nat->Prop}
 (hi : i < es.length) (hfo : fo + ds.length<=k) (h0 : 0 < ds.length) (hus : us.length=ds.length) (hna : ∀ d ∈ ds,d.isAgg=false) (hv : v.ownBlock=some b) (hw' : w'.ownsRow 0 e k v es.length (setL xs (i * k + fo) us))
 (hblk : ∀ g,g < w.heap.size->g ≠ b->w'.heap[g]? = w.heap[g]?) (hgs : ∀ c,c < ds.length->Dp w (ds.getD c .nilptr) (us.getD c Go.undef) (gs c)) (hgd : ∀ c c' g,gs c g->gs c' g->c=c') (hgF : ∀ c g,gs c g->¬ F g)
 (hF' : ∀ g,F g->F' g) (hF'' : ∀ c g,gs c g->F' g) :
 DpR β w' e k (setC es i fo ds) none v F' (setL xs (i * k + fo) us) (fun c g => if i * k + fo<=c∧c < i * k + fo + ds.length then gs (c - (i * k + fo)) g else fs c g):=by
 obtain ⟨f1,f2⟩:=flat_setC h.hk hi hfo h0 hna
 have fl:=flat_length h.hk
 have hxl:=h.hw.1
 have hle : i * k + k<=es.length * k:=by
  have : (i + 1) * k<=es.length * k:=Nat.mul_le_mul_right k (by omega)
  rwa [Nat.add_mul,Nat.one_mul] at this
 have hFb : F b:=(h.hb b hv).1
 refine ⟨h.hk0,f2,by simpa [setC] using hw',fun b' hb' => ⟨hF' _ (h.hb b' hb').1,fun c => ?_⟩,fun c g => ?_,fun c c' g => ?_,fun c hc _ => ?_,fun _ _ h => by cases h⟩
 . obtain rfl:=ownBlock_uniq hv hb'
   split
   . exact fun hg => hgF _ _ hg hFb
   . exact (h.hb b hv).2 c
 . split
   . exact fun hg => hF'' _ _ hg
   . exact fun hg => hF' _ (h.hf _ _ hg)
 . split<;>split
   . intro h1 h2; have:=hgd _ _ _ h1 h2; omega
   . intro h1 h2; exact absurd (h.hf _ _ h2) (hgF _ _ h1)
   . intro h1 h2; exact absurd (h.hf _ _ h1) (hgF _ _ h2)
   . exact h.hd c c' g
 . rw [f1,setL_length (by omega)] at hc
   rw [f1,setL_getD (by omega),setL_getD (by omega),hus]
   split
   . rename_i hin
     refine (hgs _ (by omega)).move fun g hg hlt => hblk g hlt ?_
     rintro rfl
     exact hgF _ _ hg hFb
   . rename_i hin
     refine (h.hr c hc (by simp)).move fun g hg hlt => hblk g hlt ?_
     rintro rfl
     exact (h.hb g hv).2 c hg

theorem DpR.mono {β : Nat->Value} {w : World} {e k es ho v F F' xs fs} (h : DpR β w e k es ho v F xs fs) (hF : ∀ g,F g->F' g) : DpR β w e k es ho v F' xs fs :=
 { h with hb:=fun b hb => ⟨hF _ (h.hb b hb).1,(h.hb b hb).2⟩,hf:=fun i g hg => hF _ (h.hf i g hg) }
theorem DpR.app {β β' : Nat->Value} {w w' : World} {e k es v F xs fs} (h : DpR β w e k es none v F xs fs) {ys : List D} {news : List Value} {v' : Value} {gs : Nat->Nat->Prop} {F' : Nat->Prop}
 (hky : ∀ y ∈ ys,y.cells.length=k) (hnl : news.length=ys.length * k) (hw' : w'.ownsRow 0 e k v' (es.length + ys.length) (xs++news)) (hblk : ∀ g,g < w.heap.size->v.ownBlock ≠ some g->w'.heap[g]? = w.heap[g]?)
 (hv' : ∀ g,v'.ownBlock=some g->w.heap.size<=g∨v.ownBlock=some g) (hlt : ∀ g,F g->g < w.heap.size) (hlt2 : ∀ c g,gs c g->g < w.heap.size)
 (hgs : ∀ c,c < (flat ys).length->Dp w ((flat ys).getD c .nilptr) (news.getD c Go.undef) (gs c)) (hgd : ∀ c c' g,gs c g->gs c' g->c=c') (hgF : ∀ c g,gs c g->¬ F g)
 (hF1 : ∀ g,v'.ownBlock=some g->F' g) (hF2 : ∀ g,F g->F' g) (hF3 : ∀ c g,gs c g->F' g) :
 DpR β' w' e k (es++ys) none v' F' (xs++news) (fun c g => if c < es.length * k then fs c g else gs (c - es.length * k) g):=by
 have fl:=flat_length h.hk
 have fly:=flat_length hky
 have hxl:=h.hw.1
 have hfa : flat (es++ys)=flat es++flat ys:=by simp [flat]
 refine ⟨h.hk0,fun x hx => (List.mem_append.1 hx).elim (h.hk x) (hky x),by simpa using hw',fun b hb => ⟨hF1 b hb,fun c => ?_⟩,fun c g => ?_,fun c c' g => ?_,fun c hc _ => ?_,fun _ _ h => by cases h⟩
 . rcases hv' b hb with h1 | h1
   . split
     . intro hg; have:=hlt _ (h.hf _ _ hg); omega
     . intro hg; have:=hlt2 _ _ hg; omega
   . split
     . exact (h.hb b h1).2 c
     . exact fun hg => hgF _ _ hg (h.hb b h1).1
 . split
   . exact fun hg => hF2 _ (h.hf _ _ hg)
   . exact fun hg => hF3 _ _ hg
 . split<;>split
   . exact h.hd c c' g
   . intro h1 h2; exact absurd (h.hf _ _ h1) (hgF _ _ h2)
   . intro h1 h2; exact absurd (h.hf _ _ h2) (hgF _ _ h1)
   . intro h1 h2; have:=hgd _ _ _ h1 h2; omega
 . rw [hfa] at hc ⊢
   simp only [List.length_append] at hc
   have e1 : (flat es++flat ys).getD c .nilptr=if c < es.length * k then (flat es).getD c .nilptr else (flat ys).getD (c - es.length * k) .nilptr:=by
    simp only [List.getD_eq_getElem?_getD,List.getElem?_append,fl]; split<;>rfl
   have e2 : (xs++news).getD c Go.undef=if c < es.length * k then xs.getD c Go.undef else news.getD (c - es.length * k) Go.undef:=by
    simp only [List.getD_eq_getElem?_getD,List.getElem?_append,hxl]; split<;>rfl
   rw [e1,e2]
   split
   . exact (h.hr c (by omega) (by simp)).move fun g hg hlt' => hblk g hlt' fun hb => (h.hb g hb).2 c hg
   . exact (hgs _ (by omega)).move fun g hg hlt' => hblk g hlt' fun hb => hgF _ _ hg (h.hb g hb).1

theorem Dp.one {w x v F} (h : Dp w x v F) : v.oneCell'=true:=by
 induction h with
 | int => rfl
 | bool => rfl
 | str => rfl
 | nil _ _ hE => cases hE<;>rfl
 | sl1 _ _ ih => exact ih
 | slice _ _ _ _ hw => rcases hw.2 with ⟨h2,_⟩ | ⟨_,_,_,h2,_⟩<;>rw [h2]<;>rfl

def eatOf : AO->Option (Prop × List D)
 | .dp _ es none => some (True,es)
 | .arr _ _ es => some (∀ x ∈ flat es,x.bare=true,es)
 | _ => none
def hasN (i : Nat) : List Nat->Bool
 | [] => false
 | k :: r => i == k || hasN i r
theorem hasN_iff {i : Nat} : ∀ {l : List Nat},hasN i l=true↔i ∈ l
 | [] => by simp [hasN]
 | k :: r => by simp [hasN,hasN_iff (l:=r)]
def eat (o : List (Nat × AO)) (j : Nat) : List AV->Option (Prop × List D × List Nat)
 | [] => some (True,[],[])
 | .d y :: r => match eat o j r with
   | some (c,ds,ks) => some (y.bare=true∧c,y :: ds,ks)
   | none => none
 | .nilS :: r => match eat o j r with
   | some (c,ds,ks) => some (c,.slice [] :: ds,ks)
   | none => none
 | .e0 :: r => match eat o j r with
   | some (c,ds,ks) => some (c,.sl1 [] :: ds,ks)
   | none => none
 | .sl i :: r => if i = j then none else match (lk i o).bind eatOf, eat o j r with
   | some (c1,ys),some (c,ds,ks) => if hasN i ks then none else some (c1∧c,eatD o i ys :: ds,i :: ks)
   | _,_ => none
 | _ => none
def cellsAV : AV->Option (List AV)
 | .d y => some (y.cells.map .d)
 | .sl i => some [.sl i]
 | .mq i => some [.mq i]
 | .st cs => some cs
 | .nilS => some [.nilS]
 | .e0 => some [.e0]
 | _ => none
theorem bare_nonagg {x : D} (h : x.bare=true) : x.isAgg=false:=by cases x<;>simp_all [D.bare,D.isAgg]

theorem bare_one {S w x v} (hb : x.bare=true) (h : Rd S w x v) : v.oneCell'=true:=by
 refine atom_one h ?_
 cases x<;>simp_all [D.bare,D.atom]
section
variable {P : Program} {Z : Nat->Prop} {β : Nat->Value} {φ : Nat->Nat->Prop} {N B : Nat} {M : Nat->Prop} {w0 : World} {st : St} {a : Act} {w : World}

theorem eatOf_res {o : AO} {c ys} (h : eatOf o=some (c,ys)) : o.isRes=false:=by
 cases o<;>first | rfl | (simp [eatOf] at h)
theorem eatOf_spec {S o c ys v F} (h : OK β S w o v F) (hq : eatOf o=some (c,ys)) (hc : c) : Dp w (.slice ys) v F:=by
 cases o with
 | arr e k es =>
   cases hq
   cases h with
   | arr hF xs hk0 hk hw hr =>
     subst hF
     exact .slice xs (fun _ _ => False) hk0 hk hw (fun b hb => ⟨hb,fun _ h => h⟩) (fun _ _ h => h.elim) (fun _ _ _ h => h.elim) fun i hi => dp_bare (hc _ (by
      simp only [List.getD_eq_getElem?_getD,List.getElem?_eq_getElem hi,Option.getD_some]; exact List.getElem_mem hi)) (hr i hi)
 | dp t es ho => cases ho with
   | none => cases hq; cases h with | dp hlt h => exact h.dp
   | some p => cases hq
 | _ => cases hq

theorem eatD_agg {o i ys} : (eatD o i ys).isAgg=false:=by
 unfold eatD
 split
 . rfl
 . cases isE0 (lk i o)<;>rfl
theorem eatD_spec {S o i ob c ys v F} (hi : lk i o=some ob) (h : OK β S w ob v F) (hq : eatOf ob=some (c,ys)) (hc : c) : Dp w (eatD o i ys) v F:=by
 have hd:=eatOf_spec h hq hc
 unfold eatD
 split
 . exact hd
 . rw [hi]
   cases he : isE0 (some ob) with
   | false => exact hd
   | true =>
     unfold isE0 at he
     split at he
     . rename_i e heq
       cases heq
       cases hq
       cases h with
       | arr hF xs hk0 hk hw hr =>
         have hx : xs=[]:=List.eq_nil_of_length_eq_zero (by simpa using hw.1)
         subst hx
         exact .sl1 hd fun _ => .inr ⟨_,hw,fun b hb => by rw [hF]; exact hb⟩
     . cases he
theorem eat_spec (h : SimB Z β φ N B M w0 st a w) {j : Nat} : ∀ {cs : List AV} {us : List Value} {c ds ks},eat st.o j cs=some (c,ds,ks)->c->us.length=cs.length->(∀ i,i < cs.length->Rel β (free Z φ st.o) w (cs.getD i .undef) (us.getD i Go.undef)) ->
 ds.length=cs.length∧(∀ d ∈ ds,d.isAgg=false)∧(∀ u ∈ us,u.oneCell'=true)∧j ∉ ks∧∃ gs : Nat->Nat->Prop,(∀ i,i < ds.length->Dp w (ds.getD i .nilptr) (us.getD i Go.undef) (gs i)) ∧
  (∀ i g,gs i g->∃ k ∈ ks,∃ x,lk k st.o=some x∧x.isRes=false∧φ k g)∧∀ i i' g,gs i g->gs i' g->i=i'
 | [], us, c, ds, ks, hq, _, hl, _ => by
   cases hq
   have : us=[]:=List.eq_nil_of_length_eq_zero hl
   subst this
   exact ⟨rfl,by simp,by simp,by simp,fun _ _ => False,by simp,by simp,by simp⟩
 | .d y :: r, us, c, ds, ks, hq, hc, hl, hr => by
   simp only [eat] at hq
   split at hq
   . rename_i c' ds' ks' he
     cases hq
     cases us with
     | nil => simp at hl
     | cons u us =>
       obtain ⟨h1,h2,h3,h4,gs,h5,h6,h7⟩:=eat_spec h he hc.2 (us:=us) (by simpa using hl) fun i hi => by simpa using hr (i + 1) (by simpa using hi)
       have hr0 : Rel β (free Z φ st.o) w (.d y) u:=by simpa using hr 0 (by simp)
       cases hr0 with
       | d hr0 =>
         refine ⟨by simp [h1],fun d hd => ?_,fun x hx => ?_,h4,fun i g => match i with | 0 => False | i + 1 => gs i g,fun i hi => ?_,fun i g hg => ?_,fun i i' g hg hg' => ?_⟩
         . rcases List.mem_cons.1 hd with rfl | hd
           . exact bare_nonagg hc.1
           . exact h2 d hd
         . rcases List.mem_cons.1 hx with rfl | hx
           . exact bare_one hc.1 hr0
           . exact h3 x hx
         . cases i with
           | zero => exact dp_bare hc.1 (by simpa using hr0)
           | succ i => exact h5 i (by simpa using hi)
         . cases i with
           | zero => exact hg.elim
           | succ i => exact h6 i g hg
         . cases i<;>cases i'
           . rfl
           . exact hg.elim
           . exact hg'.elim
           . rw [h7 _ _ g hg hg']
   . cases hq
 | .nilS :: r, us, c, ds, ks, hq, hc, hl, hr => by
   simp only [eat] at hq
   split at hq
   . rename_i c' ds' ks' he
     cases hq
     cases us with
     | nil => simp at hl
     | cons u us =>
       obtain ⟨h1,h2,h3,h4,gs,h5,h6,h7⟩:=eat_spec h he hc (us:=us) (by simpa using hl) fun i hi => by simpa using hr (i + 1) (by simpa using hi)
       have hr0 : Rel β (free Z φ st.o) w .nilS u:=by simpa using hr 0 (by simp)
       cases hr0
       refine ⟨by simp [h1],fun d hd => ?_,fun x hx => ?_,h4,fun i g => match i with | 0 => False | i + 1 => gs i g,fun i hi => ?_,fun i g hg => ?_,fun i i' g hg hg' => ?_⟩
       . rcases List.mem_cons.1 hd with rfl | hd
         . rfl
         . exact h2 d hd
       . rcases List.mem_cons.1 hx with rfl | hx
         . rfl
         . exact h3 x hx
       . cases i with
         | zero => exact .nil _ _ (.nil _)
         | succ i => exact h5 i (by simpa using hi)
       . cases i with
         | zero => exact hg.elim
         | succ i => exact h6 i g hg
       . cases i<;>cases i'
         . rfl
         . exact hg.elim
         . exact hg'.elim
         . rw [h7 _ _ g hg hg']
   . cases hq
 | .e0 :: r, us, c, ds, ks, hq, hc, hl, hr => by
   simp only [eat] at hq
   split at hq
   . rename_i c' ds' ks' he
     cases hq
     cases us with
     | nil => simp at hl
     | cons u us =>
       obtain ⟨h1,h2,h3,h4,gs,h5,h6,h7⟩:=eat_spec h he hc (us:=us) (by simpa using hl) fun i hi => by simpa using hr (i + 1) (by simpa using hi)
       have hr0 : Rel β (free Z φ st.o) w .e0 u:=by simpa using hr 0 (by simp)
       obtain ⟨a0,rfl⟩ : ∃ a0,u=.slice a0 0 0:=by cases hr0<;>exact ⟨_,rfl⟩
       refine ⟨by simp [h1],fun d hd => ?_,fun x hx => ?_,h4,fun i g => match i with | 0 => False | i + 1 => gs i g,fun i hi => ?_,fun i g hg => ?_,fun i i' g hg hg' => ?_⟩
       . rcases List.mem_cons.1 hd with rfl | hd
         . rfl
         . exact h2 d hd
       . rcases List.mem_cons.1 hx with rfl | hx
         . rfl
         . exact h3 x hx
       . cases i with
         | zero => exact .sl1 (.nil _ _ (.nil _)) fun _ => .inl ⟨_,rfl⟩
         | succ i => exact h5 i (by simpa using hi)
       . cases i with
         | zero => exact hg.elim
         | succ i => exact h6 i g hg
       . cases i<;>cases i'
         . rfl
         . exact hg.elim
         . exact hg'.elim
         . rw [h7 _ _ g hg hg']
   . cases hq
 | .sl i0 :: r, us, c, ds, ks, hq, hc, hl, hr => by
   simp only [eat] at hq
   split at hq
   . cases hq
   . rename_i hij
     split at hq
     . rename_i c1 ys c' ds' ks' ho he
       split at hq
       . cases hq
       . rename_i hnk
         cases hq
         obtain ⟨ob,hob,ho⟩:=Option.bind_eq_some_iff.1 ho
         cases us with
         | nil => simp at hl
         | cons u us =>
           obtain ⟨h1,h2,h3,h4,gs,h5,h6,h7⟩:=eat_spec h he hc.2 (us:=us) (by simpa using hl) fun i hi => by simpa using hr (i + 1) (by simpa using hi)
           have hr0 : Rel β (free Z φ st.o) w (.sl i0) u:=by simpa using hr 0 (by simp)
           have hOK:=h.objs i0 ob hob
           have hd0:=eatD_spec hob hOK ho hc.1
           obtain ⟨a0,n0,c0,hsl⟩:=hOK.is_slice
           have hu : u=β i0:=by cases hr0; rfl
           subst hu
           have hnk' : i0 ∉ ks':=fun h => hnk (hasN_iff.2 h)
           have hex : ∀ i g,gs i g->¬ φ i0 g:=fun i g hg hg' => by
            obtain ⟨k,hk,x,hx,_,hg2⟩:=h6 i g hg
            exact hnk' ((h.disj i0 k ob x g hob hx hg' hg2) ▸ hk)
           refine ⟨by simp [h1],fun d hd => ?_,fun x hx => ?_,by simp only [List.mem_cons,not_or]; exact ⟨fun e => hij e.symm,h4⟩,fun i g => match i with | 0 => φ i0 g | i + 1 => gs i g,fun i hi => ?_,fun i g hg => ?_,fun i i' g hg hg' => ?_⟩
           . rcases List.mem_cons.1 hd with rfl | hd
             . exact eatD_agg
             . exact h2 d hd
           . rcases List.mem_cons.1 hx with rfl | hx
             . rw [hsl]; rfl
             . exact h3 x hx
           . cases i with
             | zero => exact hd0
             | succ i => exact h5 i (by simpa using hi)
           . cases i with
             | zero => exact ⟨i0,by simp,ob,hob,eatOf_res ho,hg⟩
             | succ i =>
               obtain ⟨k,hk,x,hx,hxr,hg2⟩:=h6 i g hg
               exact ⟨k,by simp [hk],x,hx,hxr,hg2⟩
           . cases i<;>cases i'
             . rfl
             . exact absurd hg (hex _ _ hg')
             . exact absurd hg' (hex _ _ hg)
             . rw [h7 _ _ g hg hg']
     . cases hq
 | .undef :: r,us,c,ds,ks,hq,_,_,_ => by simp [eat] at hq
 | .p _ _ :: r,us,c,ds,ks,hq,_,_,_ => by simp [eat] at hq
 | .pe _ _ _ _ :: r,us,c,ds,ks,hq,_,_,_ => by simp [eat] at hq
 | .mq _ :: r,us,c,ds,ks,hq,_,_,_ => by simp [eat] at hq
 | .sf _ _ _ :: r,us,c,ds,ks,hq,_,_,_ => by simp [eat] at hq
 | .vw _ _ _ _ :: r,us,c,ds,ks,hq,_,_,_ => by simp [eat] at hq
 | .pv _ _ _ _ _ :: r,us,c,ds,ks,hq,_,_,_ => by simp [eat] at hq
 | .tup _ :: r,us,c,ds,ks,hq,_,_,_ => by simp [eat] at hq
 | .fn _ _ :: r,us,c,ds,ks,hq,_,_,_ => by simp [eat] at hq
 | .hdr _ _ :: r,us,c,ds,ks,hq,_,_,_ => by simp [eat] at hq
 | .st _ :: r,us,c,ds,ks,hq,_,_,_ => by simp [eat] at hq

theorem cellsAV_spec {S av v cs} (hv : Rel β S w av v) (hq : cellsAV av=some cs) (hsl : ∀ j,av=.sl j->∃ a n c,β j=.slice a n c) :
 v.cells.toList.length=cs.length∧∀ i,i < cs.length->Rel β S w (cs.getD i .undef) (v.cells.toList.getD i Go.undef):=by
 cases av<;>simp only [cellsAV,Option.some.injEq,reduceCtorEq] at hq
 . subst hq
   cases hv with
   | d hr =>
     obtain ⟨h1,h2⟩:=rd_cells hr
     refine ⟨by simpa using h1,fun i hi => ?_⟩
     simp only [List.length_map] at hi
     have:=h2 i hi
     simp only [List.getD_eq_getElem?_getD,List.getElem?_map,List.getElem?_eq_getElem hi,Option.map_some,Option.getD_some] at this ⊢
     exact .d this
 . subst hq
   rename_i j
   obtain ⟨a,n,c,e⟩:=hsl j rfl
   have hu : v=β j:=by cases hv; rfl
   subst hu
   refine ⟨by rw [e]; rfl,fun i hi => ?_⟩
   have : i=0:=by simpa using hi
   subst this
   rw [e]; simp only [Value.cells]
   simpa [e] using hv
 . subst hq
   obtain ⟨a0,rfl⟩ : ∃ a0,v=.slice a0 0 0:=by cases hv<;>exact ⟨_,rfl⟩
   refine ⟨rfl,fun i hi => ?_⟩
   have : i=0:=by simpa using hi
   subst this
   cases a0 with
   | none => exact .e0n
   | some a0 => exact .e0s a0
 . subst hq
   cases hv
   refine ⟨rfl,fun i hi => ?_⟩
   have : i=0:=by simpa using hi
   subst this
   exact .nilS
 . subst hq
   cases hv with
   | st hl hr => exact ⟨by simpa [Value.cells] using hl,by simpa [Value.cells] using hr⟩
 . subst hq
   cases hv with
   | mq h =>
     refine ⟨rfl,fun i hi => ?_⟩
     have : i=0:=by simpa using hi
     subst this
     exact .mq h

def deepAt (st : St) (j : Nat) : Option (Option (TypeId × Nat) × List D × St) :=
 match lk j st.o with
 | some (.dp t es none) => some (t,es,st)
 | some (.dp t es (some (c, some d))) => if d = j then none else match lk d st.o with
   | some (.dp _ ys none) => some (t,setC es c.1 c.2 [.slice ys],⟨wipeS d st.s,ins j (.dp t (setC es c.1 c.2 [.slice ys]) none) (wipeO d st.o)⟩)
   | _ => none
 | _ => none

theorem deepAt_spec (h : SimB Z β φ N B M w0 st a w) {j t es st'} (hq : deepAt st j=some (t,es,st')) : ∃ φ',SimB Z β φ' N B M w0 st' a w∧lk j st'.o=some (.dp t es none):=by
 unfold deepAt at hq
 split at hq
 . rename_i t' es' hj
   cases hq
   exact ⟨φ,h,hj⟩
 . rename_i t' es' c d hj
   split at hq
   . cases hq
   . rename_i hdj
     split at hq
     . rename_i t2 ys hd
       cases hq
       have hOj:=h.objs j _ hj
       have hOd:=h.objs d _ hd
       refine ⟨updF φ j (fun g => φ j g∨φ d g),?_,by simp [lk_ins]⟩
       have hdis : ∀ g,φ j g->φ d g->False:=fun g h1 h2 => hdj (h.disj d j _ _ g hd hj h2 h1)
       refine h.regroup (fun i => i=j∨i=d) (fun i => i=j) rfl rfl rfl (Nat.le_refl _) (Nat.le_refl _) (fun _ _ _ => rfl) (fun i av hi => ?_) (fun i x hi => ?_) (fun i i' g hi hi' _ _ => hi.trans hi'.symm)
       . obtain ⟨_,h2⟩:=lk_wipeS hi
         exact h2.imp id fun h2 => ⟨h2,fun _ hr => hr⟩
       . rw [lk_ins] at hi
         split at hi
         . rename_i e
           subst e; cases hi
           refine .inr ⟨rfl,fun g hg => .inr ?_,fun S' _ => ?_⟩
           . rw [updF_eq] at hg
             exact hg.elim (fun hg => ⟨i,_,.inl rfl,hj,rfl,hg⟩) fun hg => ⟨d,_,.inr rfl,hd,rfl,hg⟩
           . rw [updF_eq]
             refine .dp (fun g hg => hg.elim (fun hg => hOj.block_lt hg) fun hg => hOd.block_lt hg) ?_
             cases hOj with
             | dp hlt hD =>
               rcases hD with ⟨_,h2,_⟩ | ⟨e,k,xs,fs,ht,hR⟩
               . cases h2
               . obtain ⟨hc1,hc2,hβ,hfc⟩:=hR.hh _ _ rfl
                 have hdd : Dp w (.slice ys) (β d) (φ d):=by cases hOd with | dp _ hD => exact hD.dp
                 have fl:=flat_length hR.hk
                 have hxl:=hR.hw.1
                 have hle : c.1 * k + k<=es'.length * k:=by
                  have : (c.1 + 1) * k<=es'.length * k:=Nat.mul_le_mul_right k (by omega)
                  rwa [Nat.add_mul,Nat.one_mul] at this
                 obtain ⟨f1,f2⟩:=flat_setC (fo:=c.2) (ds:=[.slice ys]) hR.hk hc1 (by simp; omega) (by simp) (by simp [D.isAgg])
                 refine .inr ⟨e,k,xs,fun i g => if i=c.1 * k + c.2 then φ d g else fs i g,ht,hR.hk0,f2,by simpa [setC] using hR.hw,fun b hb => ⟨.inl (hR.hb b hb).1,fun i => ?_⟩,fun i g hg => ?_,fun i i' g => ?_,fun i hi _ => ?_,fun _ _ h => by cases h⟩
                 . split
                   . exact fun hg => hdis b (hR.hb b hb).1 hg
                   . exact (hR.hb b hb).2 i
                 . split at hg
                   . exact .inr hg
                   . exact .inl (hR.hf _ _ hg)
                 . split<;>split
                   . intro _ _; omega
                   . intro h1 h2; exact (hdis g (hR.hf _ _ h2) h1).elim
                   . intro h1 h2; exact (hdis g (hR.hf _ _ h1) h2).elim
                   . exact hR.hd i i' g
                 . rw [f1,setL_length (ds:=flat es') (xs:=[.slice ys]) (by simp; omega)] at hi
                   rw [f1,setL_getD (ds:=flat es') (xs:=[.slice ys]) (by simp; omega)]
                   by_cases e1 : i=c.1 * k + c.2
                   . subst e1
                     simp only [List.length_singleton,Nat.le_refl,Nat.lt_add_one,and_self,if_true,Nat.sub_self,List.getD_cons_zero]
                     rw [← hβ]; exact hdd
                   . rw [if_neg (by simp; omega)]
                     simp only [e1,if_false]
                     exact hR.hr i hi fun c' d' e2 => by cases e2; exact fun e3 => e1 e3.symm
         . rename_i hne
           obtain ⟨h1,y,h2,rfl⟩:=lk_wipeO hi
           exact .inl ⟨by rintro (h3 | h3); exact hne h3; exact h1 h3,updF_ne i hne,rfl,y,h2,wipe_res.symm,fun S w v F hO => hO.wipe fun _ _ => rfl⟩
     . cases hq
 . cases hq
end
end Abs
