/- What functions of this program compute, over plain data. No condition. -/
import Derived.Test.YtkccabajcdphkaaGreatAbsAny8
import Derived.Test.YtkccabajcdphkaaGreatAbsSimp
import Derived.ProofKit
import Derived.OpenShut
import Derived.ShutString
import Derived.ChangeOld
import Derived.Below
import Derived.Deep.Slices
set_option linter.all false
namespace Abs
open Go Go.RowKit
def del8 (j : Nat) : List (Oper × Nat)->List (Oper × Nat)
 | [] => []
 | p :: r => bif Nat.beq p.2 j then del8 j r else p :: del8 j r
theorem zs6 (j : Nat) : ∀ r : List (Oper × Nat),r.filter (fun x => x.2 != j)=del8 j r
 | [] => rfl
 | p :: r => by
   rw [List.filter_cons,zs6 j r,del8]
   cases e : Nat.beq p.2 j with
   | true => simp [Nat.eq_of_beq_eq_true e]
   | false => simp [Nat.ne_of_beq_eq_false e]
@[go_sem] theorem del8_nil (j) : del8 j []=[]:=rfl
theorem del8_in (j o k r) (h : Nat.beq k j=true) : del8 j ((o,k) :: r)=del8 j r:=by rw [del8,h]; rfl
theorem del8_out (j o k r) (h : Nat.beq k j=false) : del8 j ((o,k) :: r)=(o,k) :: del8 j r:=by rw [del8,h]; rfl
def A8 (l : List Oper) (R : List (Oper × Nat)) (f : Oper × Nat->Prop) : List (Oper × Nat)->Prop
 | [] => True
 | p :: r => (ys1 l R p=true->f p)∧A8 l R f r
@[go_sem] theorem A8_nil (l R f) : A8 l R f []=True:=rfl
theorem A8_in (l R f o k r) (h : ys1 l R (o,k)=true) : A8 l R f ((o,k) :: r)=(f (o,k)∧A8 l R f r):=by simp [A8,h]
theorem A8_out (l R f o k r) (h : ys1 l R (o,k)=false) : A8 l R f ((o,k) :: r)=A8 l R f r:=by simp [A8,h]
theorem zx4 {l R f} : ∀ {r : List (Oper × Nat)},A8 l R f r->∀ q ∈ r,ys1 l R q=true->f q
 | [],_,q,h,_ => by cases h
 | p :: r, h, q, hq, hm => by
   rcases List.mem_cons.1 hq with rfl | hq
   . exact h.1 hm
   . exact zx4 h.2 q hq hm
def T8 (P : Program) (N : Nat) (l : List Oper) (hs : List (Oper × Nat)) : List Oper->List (Oper × Nat)->(St->Prop)->St->Prop
 | _,[],K,S => K S
 | [],_ :: _,_,_ => False
 | _ :: fs,p :: r,K,S => A8 l (p :: r) (fun q => OpsW P N l [q.1] S fun S' => F7 P N l q.2 S' [] hs∧T8 P N l hs fs (del8 q.2 (p :: r)) K S') (p :: r)
@[go_sem] theorem T8_nil (P N l hs fs K S) : T8 P N l hs fs [] K S=K S:=by cases fs<;>rfl
@[go_sem] theorem T8_cons (P N l hs f fs o k r K S) : T8 P N l hs (f :: fs) ((o,k) :: r) K S=A8 l ((o,k) :: r) (fun q => OpsW P N l [q.1] S fun S' => F7 P N l q.2 S' [] hs∧T8 P N l hs fs (del8 q.2 ((o,k) :: r)) K S') ((o,k) :: r):=rfl
attribute [go_sem] A8_in A8_out del8_in del8_out
theorem A8_iff {l R f} (r : List (Oper × Nat)) : A8 l R f r=∀ q ∈ r,ys1 l R q=true->f q:=by
 refine propext ⟨zx4,fun h => ?_⟩
 induction r with
 | nil => trivial
 | cons p r ih => exact ⟨h p (.head _),ih fun q hq => h q (.tail _ hq)⟩
theorem ua0 {P : Program} {N : Nat} {l : List Oper} {hs : List (Oper × Nat)} : ∀ (fs : List Oper) (R : List (Oper × Nat)) (K : St->Prop) (S : St),T8 P N l hs fs R K S=yj3 P N l hs fs.length R S K
 | fs,[],K,S => by rw [T8_nil,zb5]
 | [],_ :: _,_,_ => rfl
 | f :: fs, p :: r, K, S => by
   obtain ⟨o,k⟩:=p
   rw [T8_cons,A8_iff]
   show _=∀ q ∈ (o,k) :: r,ys1 l ((o,k) :: r) q=true->xm2 P N l S q.1 fun S' => xh8 P N l (xh1 l q.2 hs) S' (fun S'' => xw1 S' S'' (xh1 l q.2 hs))∧yj3 P N l hs fs.length (((o,k) :: r).filter fun x => x.2 != q.2) S' K
   have e : ∀ q : Oper × Nat,(fun S' => F7 P N l q.2 S' [] hs∧T8 P N l hs fs (del8 q.2 ((o,k) :: r)) K S')=fun S' => xh8 P N l (xh1 l q.2 hs) S' (fun S'' => xw1 S' S'' (xh1 l q.2 hs))∧yj3 P N l hs fs.length (((o,k) :: r).filter fun x => x.2 != q.2) S' K:=fun q => funext fun S' => by
    rw [ua0 fs,zs6,F7,xj6]; rfl
   have e2 : ∀ q : Oper × Nat,OpsW P N l [q.1] S (fun S' => F7 P N l q.2 S' [] hs∧T8 P N l hs fs (del8 q.2 ((o,k) :: r)) K S')=xm2 P N l S q.1 fun S' => xh8 P N l (xh1 l q.2 hs) S' (fun S'' => xw1 S' S'' (xh1 l q.2 hs))∧yj3 P N l hs fs.length (((o,k) :: r).filter fun x => x.2 != q.2) S' K:=fun q => by
    rw [e q,xp3]; rfl
   exact forall_congr fun q => by rw [e2 q]
def kH8 (P : Program) (N : Nat) (l : List Oper) (hs ts : List (Oper × Nat)) (K : St->Prop) (S : St) : Prop:=T8 P N l hs l ts K S
@[go_sem] theorem kH8_eq (P N l hs ts K S) : kH8 P N l hs ts K S=T8 P N l hs l ts K S:=rfl
def Z8c (P : Program) (N : Nat) (l : List Oper) (K : St->Prop) (st : St) : List (Oper × Nat)->List (Oper × Nat)->Nat->List Bool->List Oper->Prop
 | hs,ts,_,_,[] => HeadW P N l (fst7 hs) st (kH8 P N l hs ts K)
 | hs,ts,k,true :: cs,o :: r => Z8c P N l K st (hs++[(o,k)]) ts (k + 1) cs r
 | hs,ts,k,false :: cs,o :: r => Z8c P N l K st hs (ts++[(o,k)]) (k + 1) cs r
 | _,_,_,[],_ :: _ => False
@[go_sem] theorem Z8c_nil (P N l K st hs ts k cs) : Z8c P N l K st hs ts k cs []=HeadW P N l (fst7 hs) st (kH8 P N l hs ts K):=by cases cs<;>rfl
@[go_sem] theorem Z8c_in (P N l K st hs ts k cs o r) : Z8c P N l K st hs ts k (true :: cs) (o :: r)=Z8c P N l K st (hs++[(o,k)]) ts (k + 1) cs r:=rfl
@[go_sem] theorem Z8c_out (P N l K st hs ts k cs o r) : Z8c P N l K st hs ts k (false :: cs) (o :: r)=Z8c P N l K st hs (ts++[(o,k)]) (k + 1) cs r:=rfl
theorem yz5 {P : Program} {N : Nat} {l : List Oper} {K : St->Prop} {st : St} : ∀ (r : List Oper) (pre cs : List Bool) (hs ts : List (Oper × Nat)),Z8c P N l K st hs ts pre.length cs r ->
 HeadW P N l (fst7 (hs++(r.zipIdx pre.length).filter fun p => (pre++cs).getD p.2 false)) st (kH8 P N l (hs++(r.zipIdx pre.length).filter fun p => (pre++cs).getD p.2 false) (ts++(r.zipIdx pre.length).filter fun p => !(pre++cs).getD p.2 false) K)
 | [],pre,cs,hs,ts,h => by rw [Z8c_nil] at h; simpa using h
 | o :: r,pre,[],hs,ts,h => h.elim
 | o :: r, pre, b :: cs, hs, ts, h => by
   have e : (pre++b :: cs).getD pre.length false=b:=by simp [List.getD_eq_getElem?_getD]
   have e2 : pre++b :: cs=(pre++[b])++cs:=by simp
   rw [List.zipIdx_cons]
   cases b with
   | true =>
     have:=yz5 r (pre++[true]) cs (hs++[(o,pre.length)]) ts (by rw [Z8c_in] at h; simpa using h)
     rw [List.filter_cons_of_pos (by exact e),List.filter_cons_of_neg (by simp only [e]; simp)]
     rw [List.length_append,List.length_singleton,← e2] at this
     simpa only [List.append_assoc,List.singleton_append] using this
   | false =>
     have:=yz5 r (pre++[false]) cs hs (ts++[(o,pre.length)]) (by rw [Z8c_out] at h; simpa using h)
     rw [List.filter_cons_of_neg (by simp only [e]; simp),List.filter_cons_of_pos (by simp only [e]; rfl)]
     rw [List.length_append,List.length_singleton,← e2] at this
     simpa only [List.append_assoc,List.singleton_append] using this
theorem Ok.reg8 {P : Program} {N id : Nat} {ops : Array Oper} {Q : Exit->St->Prop} {st : St} (cls : List Bool) (h8 : ok8 cls ops.toList=true) (h : Z8c P N ops.toList (Q .normal) st [] [] 0 cls ops.toList) : Ok P N (.region id ops true) Q st:=fun h1 h2 Z B M w0 a w hs => by
 have h' : xh8 P N ops.toList ((hs7 cls ops.toList).map (·.1)) st fun st' => yj3 P N ops.toList (hs7 cls ops.toList) ops.toList.length (ts7 cls ops.toList) st' (Q .normal):=by
  have h:=yz5 ops.toList [] cls [] [] h
  rw [xj6,← yy6] at h
  have e : kH8 P N ops.toList (hs7 cls ops.toList) (ts7 cls ops.toList) (Q .normal)=fun S => yj3 P N ops.toList (hs7 cls ops.toList) ops.toList.length (ts7 cls ops.toList) S (Q .normal):=funext fun S => ua0 _ _ _ _
  exact e ▸ h
 obtain ⟨l⟩:=ops
 exact wp_drawn8 h2 h8 (fun st a w hs hk => ⟨st,hs,hk⟩) hs h'
end Abs

namespace Abs
open Go Go.RowKit Go.ChangeShapes Go.WideShapes Go.ChangeAt Go.Deep

def OpC (P : Program) (t : TypeId) (agg : Bool) (R : D->Prop) : Prop :=
 ∀ (H : Type) (enc : TypeId × Value->H) (w : World) (fuel : Nat) (cs : List Value) (y : DataW H × List MemPlace),DataW.trod enc P w 0 (fun _ => true) true fuel t cs=some y ->
  ∃ x : D,x.isAgg=agg∧x.cells.length=cs.length∧cs.length=P.cellsOf t∧(∀ i,i < cs.length->Rd (fun _ => True) w (x.cells.getD i .nilptr) (cs.getD i Go.undef))∧R x

def OpV (P : Program) (t : TypeId) (R : D->Prop) : Prop :=
 ∀ (H : Type) (enc : TypeId × Value->H) (w : World) (v : Value) (d : DataW H) (p : List MemPlace),Value.okWide P w .any 0 t v->DataW.Trod enc P w 0 (fun _ => true) true t v d p->∃ x : D,Rd (fun _ => True) w x v∧R x

theorem zc1 {w : World} {x : D} {v : Value} (hx : x.isAgg=false) (h : Rd (fun _ => True) w x v) :
 x.cells.length=[v].length∧∀ i,i < [v].length->Rd (fun _ => True) w (x.cells.getD i .nilptr) ([v].getD i Go.undef):=by
 have e : x.cells=[x]:=by cases x<;>simp_all [D.cells,D.isAgg]
 rw [e]
 refine ⟨rfl,fun i hi => ?_⟩
 obtain rfl : i=0:=by simpa using hi
 exact h

def zz5 (x : D) : Prop:=∃ n : Int,x=.int .i64 n∧-9223372036854775808<=n∧n<=9223372036854775807
def isBool (x : D) : Prop:=∃ b : Bool,x=.bool b
def isStr (x : D) : Prop:=∃ s : ByteArray,x=.str s∧s.size<=maxLen
def isSl (R : D->Prop) (x : D) : Prop:=∃ es : List D,x=.slice es∧es.length<=maxLen∧∀ e ∈ es,R e
def isSt (Rs : List (D->Prop)) (x : D) : Prop:=∃ es : List D,x=.agg (flat es)∧es.length=Rs.length∧∀ i,i < Rs.length->(Rs.getD i fun _ => True) (es.getD i .nilptr)

theorem opC_int {P : Program} {t : TypeId} (ht : P.underlying t=some (.int .i64)) (hc : P.cellsOf t=1) : OpC P t false zz5:=by
 intro H enc w fuel cs y h
 obtain ⟨n,rfl,hx,hw⟩:=DataW.trod_int ht h
 obtain ⟨h1,h2⟩:=zc1 (w:=w) rfl (Rd.int .i64 n)
 exact ⟨.int .i64 n,rfl,h1,by simp [hc],h2,n,rfl,bounds_i64 hw⟩
def isU8 (x : D) : Prop:=∃ n : Int,x=.int .u8 n∧0<=n∧n<=255
theorem opC_u8 {P : Program} {t : TypeId} (ht : P.underlying t=some (.int .u8)) (hc : P.cellsOf t=1) : OpC P t false isU8:=by
 intro H enc w fuel cs y h
 obtain ⟨n,rfl,hx,hw⟩:=DataW.trod_int ht h
 obtain ⟨h1,h2⟩:=zc1 (w:=w) rfl (Rd.int .u8 n)
 refine ⟨.int .u8 n,rfl,h1,by simp [hc],h2,n,rfl,?_⟩
 simp [Lit.wf,IntKind.min,IntKind.max,IntKind.signed,IntKind.bits] at hw
 omega
theorem yg8 {k : Nat} : ∀ {es : List D} (_ : ∀ e ∈ es,e.cells.length=k) {i j : Nat},i < es.length->j < k->(flat es).getD (i * k + j) .nilptr=(es.getD i .nilptr).cells.getD j .nilptr
 | [],_,_,_,hi,_ => absurd hi (Nat.not_lt_zero _)
 | e :: es, h, 0, j, _, hj => by
   have:=h e (by simp)
   simp only [flat,List.flatMap_cons,Nat.zero_mul,Nat.zero_add,List.getD_cons_zero]
   rw [List.getD_eq_getElem?_getD,List.getD_eq_getElem?_getD,List.getElem?_append_left (by omega)]
 | e :: es, h, i + 1, j, hi, hj => by
   have h1:=h e (by simp)
   have ih:=yg8 (es:=es) (fun x hx => h x (by simp [hx])) (i:=i) (j:=j) (by simpa using hi) hj
   simp only [flat,List.flatMap_cons,List.getD_cons_succ] at ih ⊢
   rw [← ih,List.getD_eq_getElem?_getD,List.getD_eq_getElem?_getD,List.getElem?_append_right (by rw [h1,Nat.succ_mul]; omega),h1]
   congr 2
   rw [Nat.succ_mul]; omega
theorem yy7 {k : Nat} : ∀ {es : List D},(∀ e ∈ es,e.cells.length=k)->(flat es).length=es.length * k
 | [],_ => by simp [flat]
 | e :: es, h => by
   have h1:=h e (by simp)
   have ih:=yy7 (es:=es) (fun x hx => h x (by simp [hx]))
   simp only [flat,List.flatMap_cons,List.length_append,List.length_cons] at ih ⊢
   rw [ih,h1,Nat.succ_mul]; omega

theorem zn7 {w : World} {base : Nat} {a : Addr} {n : Nat} {cs : List Value} (h : w.cells? base a n=some cs) {i : Nat} (hi : i < n) : w.cell? (a.add i)=some (cs.getD i Go.undef):=by
 obtain ⟨_,hl,hx⟩:=World.cells?_some h
 rw [hx i hi,List.getD_eq_getElem?_getD,List.getElem?_eq_getElem (by omega)]; rfl

theorem yq4 {α : Type} (z : α) {Q : Nat->α->Prop} : ∀ (n : Nat),(∀ i,i < n->∃ x,Q i x)->∃ l : List α,l.length=n∧∀ i,i < n->Q i (l.getD i z)
 | 0,_ => ⟨[],rfl,fun _ h => absurd h (Nat.not_lt_zero _)⟩
 | n + 1, h => by
   obtain ⟨l,hl,hq⟩:=yq4 z n fun i hi => h i (by omega)
   obtain ⟨x,hx⟩:=h n (by omega)
   refine ⟨l++[x],by simp [hl],fun i hi => ?_⟩
   by_cases e : i=n
   . subst e
     rw [List.getD_eq_getElem?_getD,List.getElem?_append_right (by omega),hl]
     simpa using hx
   . have:=hq i (by omega)
     rw [List.getD_eq_getElem?_getD] at this ⊢
     rw [List.getElem?_append_left (by omega)]
     exact this

theorem opC_slice {P : Program} {t e : TypeId} {agg : Bool} {R : D->Prop} (ht : P.underlying t=some (.slice e)) (hc : P.cellsOf t=1) (hpos : 0 < P.cellsOf e) (he : OpC P e agg R) : OpC P t false (isSl R):=by
 intro H enc w fuel cs y h
 rcases open_slice ht h with ⟨rfl,_⟩ | ⟨a,len,cap,m,n,Dd,Pl,rfl,hb,hl,hm,hmm,rfl,hx⟩
 . obtain ⟨h1,h2⟩:=zc1 (w:=w) rfl (Rd.nil none)
   exact ⟨.slice [],rfl,h1,by simp [hc],h2,[],rfl,Nat.zero_le _,fun _ h => by simp at h⟩
 . simp only [if_true] at hmm
   subst hmm
   have hel : ∀ i,i < len->∃ q : D × List Value,q.1.cells.length=P.cellsOf e∧w.cells? 0 (a.add (i * P.cellsOf e)) (P.cellsOf e)=some q.2∧(∀ j,j < P.cellsOf e->Rd (fun _ => True) w (q.1.cells.getD j .nilptr) (q.2.getD j Go.undef))∧R q.1:=by
    intro i hi
    obtain ⟨cs',h1,h2⟩:=hx i (by omega)
    obtain ⟨x,h3,h4,h5,h6,h7⟩:=he H enc w n cs' _ h2
    exact ⟨(x,cs'),by simp only; omega,h1,fun j hj => h6 j (by omega),h7⟩
   obtain ⟨qs,hql,hq⟩:=yq4 (.nilptr,[]) len hel
   by_cases h0 : m=0
   . subst h0
     have : len=0:=by omega
     subst this
     obtain ⟨h1,h2⟩:=zc1 (w:=w) rfl (Rd.nil (some a))
     exact ⟨.slice [],rfl,h1,by simp [hc],h2,[],rfl,Nat.zero_le _,fun _ h => by simp at h⟩
   . obtain ⟨cs0,g1,_⟩:=hx 0 (by omega)
     have g2:=zn7 g1 (i:=0) hpos
     have hsp : a.spot=none:=by
      have:=World.cell?_spot g2
      simpa [Addr.add] using this
     obtain ⟨b,off,spot⟩:=a
     simp only at hsp
     subst hsp
     have hk : ∀ x ∈ qs.map (·.1),x.cells.length=P.cellsOf e:=by
      intro x hx
      obtain ⟨q,hqm,rfl⟩:=List.mem_map.1 hx
      obtain ⟨i,hi,rfl⟩:=List.mem_iff_getElem.1 hqm
      have:=(hq i (by omega)).1
      rwa [List.getD_eq_getElem?_getD,List.getElem?_eq_getElem hi] at this
     have fl:=yy7 hk
     rw [List.length_map,hql] at fl
     have hget : ∀ i,i < len->(qs.map (·.1)).getD i .nilptr=(qs.getD i (.nilptr,[])).1:=by
      intro i hi
      rw [List.getD_eq_getElem?_getD,List.getD_eq_getElem?_getD,List.getElem?_map,List.getElem?_eq_getElem (by omega)]; rfl
     have hdm : ∀ i,i < len * P.cellsOf e->i / P.cellsOf e < len∧i % P.cellsOf e < P.cellsOf e∧i / P.cellsOf e * P.cellsOf e + i % P.cellsOf e=i:=fun i hi =>
      ⟨(Nat.div_lt_iff_lt_mul hpos).2 hi,Nat.mod_lt _ hpos,by rw [Nat.mul_comm]; exact Nat.div_add_mod _ _⟩
     have hr : Rd (fun _ => True) w (.slice (qs.map (·.1))) (.slice (some ⟨b,off,none⟩) (qs.map (·.1)).length m) :=
      Rd.slice (k:=P.cellsOf e) (fun i => ((qs.getD (i / P.cellsOf e) (.nilptr,[])).2).getD (i % P.cellsOf e) Go.undef) hk (by rw [List.length_map]; omega)
       (fun i hi => by
        obtain ⟨d1,d2,d3⟩:=hdm i (by omega)
        obtain ⟨_,q2,_,_⟩:=hq _ d1
        have:=zn7 q2 d2
        refine ⟨trivial,?_⟩
        rw [← this]
        congr 1
        simp only [Addr.add]
        split<;>split<;>simp<;>omega)
       (fun i hi => by
        obtain ⟨d1,d2,d3⟩:=hdm i (by omega)
        obtain ⟨_,_,q3,_⟩:=hq _ d1
        have:=q3 _ d2
        rw [← hget _ d1,← yg8 hk (by rw [List.length_map]; omega) d2,d3] at this
        exact this)
     rw [List.length_map,hql] at hr
     obtain ⟨h1,h2⟩:=zc1 (w:=w) rfl hr
     refine ⟨_,rfl,h1,by simp [hc],h2,_,rfl,by rw [List.length_map]; omega,fun x hx => ?_⟩
     obtain ⟨q,hqm,rfl⟩:=List.mem_map.1 hx
     obtain ⟨i,hi,rfl⟩:=List.mem_iff_getElem.1 hqm
     have:=(hq i (by omega)).2.2.2
     rwa [List.getD_eq_getElem?_getD,List.getElem?_eq_getElem hi] at this

inductive OpF (P : Program) : Nat->List Field->List (D->Prop)->Nat->Prop
 | nil (off) : OpF P off [] [] off
 | cons {off tot : Nat} {f : Field} {fs : List Field} {agg : Bool} {R : D->Prop} {Rs : List (D->Prop)} (ho : f.offset=off) (h : OpC P f.type agg R) (hs : OpF P (off + P.cellsOf f.type) fs Rs tot) : OpF P off (f :: fs) (R :: Rs) tot

def arF (P : Program) (e : TypeId) : Nat->Nat->List Field
 | 0,_ => []
 | n + 1,off => { (default : Field) with type:=e,offset:=off } :: arF P e n (off + P.cellsOf e)
theorem zq7 {P : Program} {t : TypeId} {R : D->Prop} (hc : OpC P t false R) (hv : ∀ w v,Value.okWide P w .any 0 t v->v.cells=#[v]) : OpV P t R:=by
 intro H enc w v d p hok ⟨fuel,h⟩
 rw [hv w v hok] at h
 obtain ⟨x,x1,x2,x3,x4,x5⟩:=hc H enc w fuel _ _ h
 have e : x.cells=[x]:=by cases x<;>simp_all [D.cells,D.isAgg]
 have:=x4 0 (by simp)
 rw [e] at this
 exact ⟨x,by simpa using this,x5⟩
theorem opV_slice {P : Program} {t e : TypeId} {R : D->Prop} (ht : P.underlying t=some (.slice e)) (hc : OpC P t false R) : OpV P t R :=
 zq7 hc fun w v h => by obtain ⟨a,l,c,rfl⟩:=okWide_slice ht h; rfl
theorem opV_int {P : Program} {t : TypeId} (ht : P.underlying t=some (.int .i64)) (hc : P.cellsOf t=1) : OpV P t zz5 :=
 zq7 (opC_int ht hc) fun w v h => by obtain ⟨n,rfl⟩:=okWide_int ht h; rfl
inductive OpA (P : Program) : List TypeId->List (D->Prop)->Prop
 | nil : OpA P [] []
 | cons {t : TypeId} {ts : List TypeId} {R : D->Prop} {Rs : List (D->Prop)} (h : OpV P t R) (hs : OpA P ts Rs) : OpA P (t :: ts) (R :: Rs)

def AllR : List (D->Prop)->List D->Prop
 | [],[] => True
 | R :: Rs,x :: xs => R x∧AllR Rs xs
 | _,_ => False

theorem opA_spec' {P : Program} {ts : List TypeId} {Rs : List (D->Prop)} (h : OpA P ts Rs) {H : Type} {enc : TypeId × Value->H} {w : World} : ∀ {vs : List Value} {ds : List (DataW H)} {p : List MemPlace},
 (∀ (j : Nat) t v,ts[j]? = some t->vs[j]? = some v->Value.okWide P w .any 0 t v)->DataW.TrodAll enc P w 0 (fun _ => true) true ts vs ds p ->
 ∃ xs : List D,vs.length=xs.length∧(∀ i,i < xs.length->Rd (fun _ => True) w (xs.getD i .nilptr) (vs.getD i Go.undef))∧AllR Rs xs:=by
 induction h with
 | nil =>
   intro vs ds p _ hd
   obtain ⟨rfl,rfl,rfl⟩:=trodAll_nil hd
   exact ⟨[],rfl,fun i hi => absurd hi (Nat.not_lt_zero _),trivial⟩
 | cons h hs ih =>
   intro vs ds p hv hd
   obtain ⟨v0,vs0,d0,ds0,p0,q0,rfl,rfl,rfl,h0,r0⟩:=trodAll_cons hd
   obtain ⟨x,hx,hR⟩:=h _ _ _ _ _ _ (hv 0 _ v0 rfl rfl) h0
   obtain ⟨xs,e1,e2,e3⟩:=ih (fun j t v a b => hv (j + 1) t v (by simpa using a) (by simpa using b)) r0
   refine ⟨x :: xs,by simp [e1],fun i hi => ?_,hR,e3⟩
   cases i with
   | zero => exact hx
   | succ i => exact e2 i (by simpa using hi)

theorem Fr.below {w w' : World} (h : Fr w.heap.size (fun _ => False) w w') : Below w.heap.size w w':=⟨h.os,h.tape,h.output,h.size,fun k hk => h.block k hk (fun h => h)⟩

theorem returns_true {P : Program} {f : FuncId} {ts : List TypeId} {Rs : List (D->Prop)} (hA : OpA P ts Rs) (hC : ∀ xs,AllR Rs xs->Ctr P f xs false (.d (.bool true)) []) {H : Type} {enc : TypeId × Value->H} {w : World} {args : Array Value} {ds : List (DataW H)} {p : List MemPlace}
 (hv : ∀ (j : Nat) t v,ts[j]? = some t->args.toList[j]? = some v->Value.okWide P w .any 0 t v) (hd : DataW.TrodAll enc P w 0 (fun _ => true) true ts args.toList ds p) :
 Calls P f args w fun e w' => e=.returned (.bool true)∧Below w.heap.size w w':=by
 obtain ⟨xs,h1,h2,h3⟩:=opA_spec' hA hv hd
 have:=(hC xs h3).2 (fun _ => True) w args.toList h1 h2
 rw [show args.toList.toArray=args by simp] at this
 refine this.mono fun e w' ⟨v,he,hf,hr⟩ => ⟨?_,hf.below⟩
 obtain ⟨β,φ,hr,_⟩:=hr
 cases hr with
 | d hr => cases hr; exact he
theorem allR_cons {R : D->Prop} {Rs : List (D->Prop)} {xs : List D} (h : AllR (R :: Rs) xs) : ∃ x ys,xs=x :: ys∧R x∧AllR Rs ys:=by
 cases xs with
 | nil => exact h.elim
 | cons x ys => exact ⟨x,ys,rfl,h.1,h.2⟩
theorem allR_nil {xs : List D} (h : AllR [] xs) : xs=[]:=by
 cases xs with
 | nil => rfl
 | cons x ys => exact h.elim
end Abs
