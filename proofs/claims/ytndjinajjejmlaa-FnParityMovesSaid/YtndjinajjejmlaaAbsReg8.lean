/- A region whose operations that change memory may come in several orders, with a division that the proof names. No condition. -/
import Derived.Test.YtndjinajjejmlaaFF3
import Derived.Test.YtndjinajjejmlaaAbsAny8
set_option linter.all false
namespace Abs
open Go Go.RowKit
def del8 (j : Nat) : List (Oper × Nat)->List (Oper × Nat)
 | [] => []
 | p :: r => bif Nat.beq p.2 j then del8 j r else p :: del8 j r
theorem del8_eq (j : Nat) : ∀ r : List (Oper × Nat),r.filter (fun x => x.2 != j)=del8 j r
 | [] => rfl
 | p :: r => by
   rw [List.filter_cons,del8_eq j r,del8]
   cases e : Nat.beq p.2 j with
   | true => simp [Nat.eq_of_beq_eq_true e]
   | false => simp [Nat.ne_of_beq_eq_false e]
@[go_sem] theorem del8_nil (j) : del8 j []=[]:=rfl
theorem del8_in (j o k r) (h : Nat.beq k j=true) : del8 j ((o,k) :: r)=del8 j r:=by rw [del8,h]; rfl
theorem del8_out (j o k r) (h : Nat.beq k j=false) : del8 j ((o,k) :: r)=(o,k) :: del8 j r:=by rw [del8,h]; rfl
def A8 (l : List Oper) (R : List (Oper × Nat)) (f : Oper × Nat->Prop) : List (Oper × Nat)->Prop
 | [] => True
 | p :: r => (minim l R p=true->f p)∧A8 l R f r
@[go_sem] theorem A8_nil (l R f) : A8 l R f []=True:=rfl
theorem A8_in (l R f o k r) (h : minim l R (o,k)=true) : A8 l R f ((o,k) :: r)=(f (o,k)∧A8 l R f r):=by simp [A8,h]
theorem A8_out (l R f o k r) (h : minim l R (o,k)=false) : A8 l R f ((o,k) :: r)=A8 l R f r:=by simp [A8,h]
theorem A8_mem {l R f} : ∀ {r : List (Oper × Nat)},A8 l R f r->∀ q ∈ r,minim l R q=true->f q
 | [],_,q,h,_ => by cases h
 | p :: r, h, q, hq, hm => by
   rcases List.mem_cons.1 hq with rfl | hq
   . exact h.1 hm
   . exact A8_mem h.2 q hq hm
def T8 (P : Program) (N : Nat) (l : List Oper) (hs : List (Oper × Nat)) : List Oper->List (Oper × Nat)->(St->Prop)->St->Prop
 | _,[],K,S => K S
 | [],_ :: _,_,_ => False
 | _ :: fs,p :: r,K,S => A8 l (p :: r) (fun q => OpsW P N l [q.1] S fun S' => F7 P N l q.2 S' [] hs∧T8 P N l hs fs (del8 q.2 (p :: r)) K S') (p :: r)
@[go_sem] theorem T8_nil (P N l hs fs K S) : T8 P N l hs fs [] K S=K S:=by cases fs<;>rfl
@[go_sem] theorem T8_cons (P N l hs f fs o k r K S) : T8 P N l hs (f :: fs) ((o,k) :: r) K S=A8 l ((o,k) :: r) (fun q => OpsW P N l [q.1] S fun S' => F7 P N l q.2 S' [] hs∧T8 P N l hs fs (del8 q.2 ((o,k) :: r)) K S') ((o,k) :: r):=rfl
attribute [go_sem] A8_in A8_out del8_in del8_out
theorem A8_iff {l R f} (r : List (Oper × Nat)) : A8 l R f r=∀ q ∈ r,minim l R q=true->f q:=by
 refine propext ⟨A8_mem,fun h => ?_⟩
 induction r with
 | nil => trivial
 | cons p r ih => exact ⟨h p (.head _),ih fun q hq => h q (.tail _ hq)⟩
theorem T8_eq {P : Program} {N : Nat} {l : List Oper} {hs : List (Oper × Nat)} : ∀ (fs : List Oper) (R : List (Oper × Nat)) (K : St->Prop) (S : St),T8 P N l hs fs R K S=tail8 P N l hs fs.length R S K
 | fs,[],K,S => by rw [T8_nil,tail8_nil]
 | [],_ :: _,_,_ => rfl
 | f :: fs, p :: r, K, S => by
   obtain ⟨o,k⟩:=p
   rw [T8_cons,A8_iff]
   show _=∀ q ∈ (o,k) :: r,minim l ((o,k) :: r) q=true->stepA P N l S q.1 fun S' => headA P N l (floats l q.2 hs) S' (fun S'' => sameAt S' S'' (floats l q.2 hs))∧tail8 P N l hs fs.length (((o,k) :: r).filter fun x => x.2 != q.2) S' K
   have e : ∀ q : Oper × Nat,(fun S' => F7 P N l q.2 S' [] hs∧T8 P N l hs fs (del8 q.2 ((o,k) :: r)) K S')=fun S' => headA P N l (floats l q.2 hs) S' (fun S'' => sameAt S' S'' (floats l q.2 hs))∧tail8 P N l hs fs.length (((o,k) :: r).filter fun x => x.2 != q.2) S' K:=fun q => funext fun S' => by
    rw [T8_eq fs,del8_eq,F7,HeadW_eq]; rfl
   have e2 : ∀ q : Oper × Nat,OpsW P N l [q.1] S (fun S' => F7 P N l q.2 S' [] hs∧T8 P N l hs fs (del8 q.2 ((o,k) :: r)) K S')=stepA P N l S q.1 fun S' => headA P N l (floats l q.2 hs) S' (fun S'' => sameAt S' S'' (floats l q.2 hs))∧tail8 P N l hs fs.length (((o,k) :: r).filter fun x => x.2 != q.2) S' K:=fun q => by
    rw [e q,OpsW_eq]; rfl
   exact forall_congr fun q => by rw [e2 q]
def kH8 (P : Program) (N : Nat) (l : List Oper) (hs ts : List (Oper × Nat)) (K : St->Prop) (S : St) : Prop:=T8 P N l hs l ts K S
@[go_sem] theorem kH8_eq (P N l hs ts K S) : kH8 P N l hs ts K S=T8 P N l hs l ts K S:=rfl
def Z8c (P : Program) (N : Nat) (l : List Oper) (K : St->Prop) (st : St) : List (Oper × Nat)->List (Oper × Nat)->Nat->List Bool->List Oper->Prop
 | hs,ts,_,_,[] => HeadW P N l (fst7 hs) st (kH8 P N l hs ts K)
 | hs,ts,k,true :: cs,o :: r => Z8c P N l K st (hs++[(o,k)]) ts (k + 1) cs r
 | hs,ts,k,false :: cs,o :: r => Z8c P N l K st hs (ts++[(o,k)]) (k + 1) cs r
 | _,_,_,[],_ :: _ => False
@[go_sem] theorem Z8c_nil (P N l K st hs ts k cs) : Z8c P N l K st hs ts k cs []=HeadW P N l (fst7 hs) st (kH8 P N l hs ts K):=by cases cs<;>rfl
@[go_sem] theorem Z8c_in (P N l K st hs ts k cs o r) : Z8c P N l K st hs ts k (true :: cs) (o :: r)=Z8c P N l K st (hs++[(o,k)]) ts (k + 1) cs r:=rfl
@[go_sem] theorem Z8c_out (P N l K st hs ts k cs o r) : Z8c P N l K st hs ts k (false :: cs) (o :: r)=Z8c P N l K st hs (ts++[(o,k)]) (k + 1) cs r:=rfl
theorem Z8c_spec {P : Program} {N : Nat} {l : List Oper} {K : St->Prop} {st : St} : ∀ (r : List Oper) (pre cs : List Bool) (hs ts : List (Oper × Nat)),Z8c P N l K st hs ts pre.length cs r ->
 HeadW P N l (fst7 (hs++(r.zipIdx pre.length).filter fun p => (pre++cs).getD p.2 false)) st (kH8 P N l (hs++(r.zipIdx pre.length).filter fun p => (pre++cs).getD p.2 false) (ts++(r.zipIdx pre.length).filter fun p => !(pre++cs).getD p.2 false) K)
 | [],pre,cs,hs,ts,h => by rw [Z8c_nil] at h; simpa using h
 | o :: r,pre,[],hs,ts,h => h.elim
 | o :: r, pre, b :: cs, hs, ts, h => by
   have e : (pre++b :: cs).getD pre.length false=b:=by simp [List.getD_eq_getElem?_getD]
   have e2 : pre++b :: cs=(pre++[b])++cs:=by simp
   rw [List.zipIdx_cons]
   cases b with
   | true =>
     have:=Z8c_spec r (pre++[true]) cs (hs++[(o,pre.length)]) ts (by rw [Z8c_in] at h; simpa using h)
     rw [List.filter_cons_of_pos (by exact e),List.filter_cons_of_neg (by simp only [e]; simp)]
     rw [List.length_append,List.length_singleton,← e2] at this
     simpa only [List.append_assoc,List.singleton_append] using this
   | false =>
     have:=Z8c_spec r (pre++[false]) cs hs (ts++[(o,pre.length)]) (by rw [Z8c_out] at h; simpa using h)
     rw [List.filter_cons_of_neg (by simp only [e]; simp),List.filter_cons_of_pos (by simp only [e]; rfl)]
     rw [List.length_append,List.length_singleton,← e2] at this
     simpa only [List.append_assoc,List.singleton_append] using this
theorem Ok.reg8 {P : Program} {N id : Nat} {ops : Array Oper} {Q : Exit->St->Prop} {st : St} (cls : List Bool) (h8 : ok8 cls ops.toList=true) (h : Z8c P N ops.toList (Q .normal) st [] [] 0 cls ops.toList) : Ok P N (.region id ops true) Q st:=fun h1 h2 Z B M w0 a w hs => by
 have h' : headA P N ops.toList ((hs7 cls ops.toList).map (·.1)) st fun st' => tail8 P N ops.toList (hs7 cls ops.toList) ops.toList.length (ts7 cls ops.toList) st' (Q .normal):=by
  have h:=Z8c_spec ops.toList [] cls [] [] h
  rw [HeadW_eq,← fst7_eq] at h
  have e : kH8 P N ops.toList (hs7 cls ops.toList) (ts7 cls ops.toList) (Q .normal)=fun S => tail8 P N ops.toList (hs7 cls ops.toList) ops.toList.length (ts7 cls ops.toList) S (Q .normal):=funext fun S => T8_eq _ _ _ _
  exact e ▸ h
 obtain ⟨l⟩:=ops
 exact wp_drawn8 h2 h8 (fun st a w hs hk => ⟨st,hs,hk⟩) hs h'
end Abs
