/- What functions of this program compute, over plain data. No condition. -/
import Derived.Test.YtiafnejjhnjbfaaDoorAbsAny9
import Derived.Test.YtiafnejjhnjbfaaDoorAbsReg7
set_option linter.all false
namespace Abs
open Go Go.RowKit
def c9 (l : List Oper) (j : Nat) (r : List (Oper × Nat)) (k : Nat) : Nat :=
 bif !((masks l).getD j 0).testBit k && r.all fun q => !((masks l).getD k 0).testBit q.2 then (bif ((masks l).getD k 0).testBit j then 2 else 1) else 0
def kN9 (S : St) (acc : List Oper) (K : St->Prop) (S'' : St) : Prop:=sameAt S S'' acc∧K S''
@[go_sem] theorem kN9_eq (S acc K S'') : kN9 S acc K S''=(sameAt S S'' acc∧K S''):=rfl
def N9 (P : Program) (N : Nat) (l : List Oper) (j : Nat) (r : List (Oper × Nat)) (accN accO : List Oper) (hs : List (Oper × Nat)) (K : St->Prop) (S : St) : Prop :=
 HeadW P N l (accN++(next9 l j r hs).map (·.1)) S (kN9 S (accO++(olds9 l j r hs).map (·.1)) K)
@[go_sem] theorem N9_nil (P N l j r accN accO K S) : N9 P N l j r accN accO [] K S=HeadW P N l accN S (kN9 S accO K):=by simp only [N9,next9,olds9,List.filter_nil,List.map_nil,List.append_nil]
theorem N9_0 (P N l j r accN accO o k hs K S) (h : c9 l j r k=0) : N9 P N l j r accN accO ((o,k) :: hs) K S=N9 P N l j r accN accO hs K S:=by
 unfold c9 at h
 cases e : (!((masks l).getD j 0).testBit k && r.all fun q => !((masks l).getD k 0).testBit q.2) with
 | false => simp only [N9,next9,olds9,List.filter_cons,e,Bool.false_and,Bool.false_eq_true,if_false]
 | true =>
   rw [e] at h
   cases e2 : ((masks l).getD k 0).testBit j<;>rw [e2] at h<;>cases h
theorem N9_2 (P N l j r accN accO o k hs K S) (h : c9 l j r k=2) : N9 P N l j r accN accO ((o,k) :: hs) K S=N9 P N l j r (accN++[o]) accO hs K S:=by
 unfold c9 at h
 cases e : (!((masks l).getD j 0).testBit k && r.all fun q => !((masks l).getD k 0).testBit q.2) with
 | false => rw [e] at h; cases h
 | true =>
   rw [e] at h
   cases e2 : ((masks l).getD k 0).testBit j with
   | false => rw [e2] at h; cases h
   | true => simp only [N9,next9,olds9,List.filter_cons,e,e2,Bool.not_true,Bool.and_false,Bool.false_eq_true,if_false,if_true,List.map_cons,List.append_assoc,List.singleton_append]
def T9 (P : Program) (N : Nat) (l : List Oper) (hs : List (Oper × Nat)) : List (Oper × Nat)->(St->Prop)->St->Prop
 | [],K,S => K S
 | (o,j) :: r,K,S => OpsW P N l [o] S fun S' => N9 P N l j r [] [] hs (T9 P N l hs r K) S'
@[go_sem] theorem T9_nil (P N l hs K S) : T9 P N l hs [] K S=K S:=rfl
@[go_sem] theorem T9_cons (P N l hs o j r K S) : T9 P N l hs ((o,j) :: r) K S=OpsW P N l [o] S fun S' => N9 P N l j r [] [] hs (T9 P N l hs r K) S':=rfl
theorem T9_eq {P : Program} {N : Nat} {l : List Oper} {hs : List (Oper × Nat)} : ∀ (r : List (Oper × Nat)) (K : St->Prop) (S : St),T9 P N l hs r K S=tail9 P N l hs r S K
 | [],_,_ => rfl
 | (o, j) :: r, K, S => by
   rw [T9_cons,OpsW_eq]
   show stepA P N l S o (fun S' => N9 P N l j r [] [] hs (T9 P N l hs r K) S')=_
   have e : (fun S' => N9 P N l j r [] [] hs (T9 P N l hs r K) S')=fun S' => headA P N l ((next9 l j r hs).map (·.1)) S' fun S'' => sameAt S' S'' ((olds9 l j r hs).map (·.1))∧tail9 P N l hs r S'' K:=funext fun S' => by
    rw [N9,HeadW_eq]
    have e2 : kN9 S' ([]++(olds9 l j r hs).map (·.1)) (T9 P N l hs r K)=fun S'' => sameAt S' S'' ((olds9 l j r hs).map (·.1))∧tail9 P N l hs r S'' K:=funext fun S'' => by
     rw [kN9,T9_eq r]; rfl
    rw [e2]; rfl
   rw [e]; rfl
def V9 (P : Program) (N : Nat) (l : List Oper) (hs0 ts : List (Oper × Nat)) (acc : List Oper) (hs : List (Oper × Nat)) (K : St->Prop) (S : St) : Prop:=HeadW P N l (acc++(avail9 l ts hs).map (·.1)) S (T9 P N l hs0 ts K)
def a9 (l : List Oper) (ts : List (Oper × Nat)) (k : Nat) : Bool:=ts.all fun q => !((masks l).getD k 0).testBit q.2
@[go_sem] theorem V9_nil (P N l hs0 ts acc K S) : V9 P N l hs0 ts acc [] K S=HeadW P N l acc S (T9 P N l hs0 ts K):=by simp only [V9,avail9,List.filter_nil,List.map_nil,List.append_nil]
theorem V9_in (P N l hs0 ts acc o k hs K S) (h : a9 l ts k=true) : V9 P N l hs0 ts acc ((o,k) :: hs) K S=V9 P N l hs0 ts (acc++[o]) hs K S:=by
 unfold a9 at h
 simp only [V9,avail9,List.filter_cons,h,if_true,List.map_cons,List.append_assoc,List.singleton_append]
theorem V9_out (P N l hs0 ts acc o k hs K S) (h : a9 l ts k=false) : V9 P N l hs0 ts acc ((o,k) :: hs) K S=V9 P N l hs0 ts acc hs K S:=by
 unfold a9 at h
 simp only [V9,avail9,List.filter_cons,h,Bool.false_eq_true,if_false]
def Z9c (P : Program) (N : Nat) (l : List Oper) (K : St->Prop) (st : St) : List (Oper × Nat)->List (Oper × Nat)->Nat->List Bool->List Oper->Prop
 | hs,ts,_,_,[] => V9 P N l hs ts [] hs K st
 | hs,ts,k,true :: cs,o :: r => Z9c P N l K st (hs++[(o,k)]) ts (k + 1) cs r
 | hs,ts,k,false :: cs,o :: r => Z9c P N l K st hs (ts++[(o,k)]) (k + 1) cs r
 | _,_,_,[],_ :: _ => False
@[go_sem] theorem Z9c_nil (P N l K st hs ts k cs) : Z9c P N l K st hs ts k cs []=V9 P N l hs ts [] hs K st:=by cases cs<;>rfl
@[go_sem] theorem Z9c_in (P N l K st hs ts k cs o r) : Z9c P N l K st hs ts k (true :: cs) (o :: r)=Z9c P N l K st (hs++[(o,k)]) ts (k + 1) cs r:=rfl
@[go_sem] theorem Z9c_out (P N l K st hs ts k cs o r) : Z9c P N l K st hs ts k (false :: cs) (o :: r)=Z9c P N l K st hs (ts++[(o,k)]) (k + 1) cs r:=rfl
attribute [go_sem] N9_0 N9_2 V9_in V9_out
theorem Z9c_spec {P : Program} {N : Nat} {l : List Oper} {K : St->Prop} {st : St} : ∀ (r : List Oper) (pre cs : List Bool) (hs ts : List (Oper × Nat)),Z9c P N l K st hs ts pre.length cs r ->
 V9 P N l (hs++(r.zipIdx pre.length).filter fun p => (pre++cs).getD p.2 false) (ts++(r.zipIdx pre.length).filter fun p => !(pre++cs).getD p.2 false) [] (hs++(r.zipIdx pre.length).filter fun p => (pre++cs).getD p.2 false) K st
 | [],pre,cs,hs,ts,h => by rw [Z9c_nil] at h; simpa using h
 | o :: r,pre,[],hs,ts,h => h.elim
 | o :: r, pre, b :: cs, hs, ts, h => by
   have e : (pre++b :: cs).getD pre.length false=b:=by simp [List.getD_eq_getElem?_getD]
   have e2 : pre++b :: cs=(pre++[b])++cs:=by simp
   rw [List.zipIdx_cons]
   cases b with
   | true =>
     have:=Z9c_spec r (pre++[true]) cs (hs++[(o,pre.length)]) ts (by rw [Z9c_in] at h; simpa using h)
     rw [List.filter_cons_of_pos (by exact e),List.filter_cons_of_neg (by simp only [e]; simp)]
     rw [List.length_append,List.length_singleton,← e2] at this
     simpa only [List.append_assoc,List.singleton_append] using this
   | false =>
     have:=Z9c_spec r (pre++[false]) cs hs (ts++[(o,pre.length)]) (by rw [Z9c_out] at h; simpa using h)
     rw [List.filter_cons_of_neg (by simp only [e]; simp),List.filter_cons_of_pos (by simp only [e]; rfl)]
     rw [List.length_append,List.length_singleton,← e2] at this
     simpa only [List.append_assoc,List.singleton_append] using this
theorem Ok.reg9 {P : Program} {N id : Nat} {ops : Array Oper} {Q : Exit->St->Prop} {st : St} (cls : List Bool) (h9 : ok9 cls ops.toList=true) (h : Z9c P N ops.toList (Q .normal) st [] [] 0 cls ops.toList) : Ok P N (.region id ops true) Q st:=fun h1 h2 Z B M w0 a w hs => by
 have h' : headA P N ops.toList ((avail9 ops.toList (ts7 cls ops.toList) (hs7 cls ops.toList)).map (·.1)) st fun st' => tail9 P N ops.toList (hs7 cls ops.toList) (ts7 cls ops.toList) st' (Q .normal):=by
  have h:=Z9c_spec ops.toList [] cls [] [] h
  rw [V9,HeadW_eq] at h
  have e : T9 P N ops.toList (hs7 cls ops.toList) (ts7 cls ops.toList) (Q .normal)=fun S => tail9 P N ops.toList (hs7 cls ops.toList) (ts7 cls ops.toList) S (Q .normal):=funext fun S => T9_eq _ _ _
  exact e ▸ h
 obtain ⟨l⟩:=ops
 exact wp_drawn9 h2 h9 (fun st a w hs hk => ⟨st,hs,hk⟩) hs h'
theorem Ok.cond {P : Program} {N : Nat} {c : Operand} {x y : Code} {Q : Exit->St->Prop} {st : St} (b : Bool) (hb : ev st c=some (.d (.bool b))) (hx : b=true->Ok P N x Q st) (hy : b=false->Ok P N y Q st) : Ok P N (.cond c x y) Q st:=fun h1 h2 Z B M w0 a w hs => by
 simp only [codeOK,Bool.and_eq_true] at h1
 have he : a.eval c=.bool b:=by obtain ⟨β,φ,hB⟩:=hs; exact ev_bool hB hb
 exact ⟨b,he,fun e => hx e h1.1 h2 Z B M w0 a w hs,fun e => hy e h1.2 h2 Z B M w0 a w hs⟩
end Abs

namespace Abs
open Go Go.RowKit
theorem Ok.loopO {P : Program} {N : Nat} {c : Code} {Q : Exit->St->Prop} {st : St} (I : Nat->St->Prop) (n0 : Nat) {st0 : St} (hw : Wk N st st0) (h0 : I n0 st0) (hr : ∀ n st,I n st->Ok P N c (loopQ N I n Q) st) : Ok P N (.loop c) Q st:=by
 intro h1 h2 Z B M w0 a w ⟨β,φ,hs⟩
 refine ⟨fun n a w => ∃ st,Sim Z N B M w0 st a w∧I n st,n0,⟨st0,hw _ _ _ _ _ _ _ _ hs,h0⟩,fun n a w ⟨st',hs',hI⟩ => ?_⟩
 refine sw_mono c (hr n st' hI h1 h2 Z B M w0 a w hs') fun e a w hl => ?_
 cases e with
 | normal =>
   obtain ⟨st1,⟨β1,φ1,hs1⟩,m,st2,hlt,hw2,hI2⟩:=hl
   exact ⟨m,hlt,st2,hw2 _ _ _ _ _ _ _ _ hs1,hI2⟩
 | exit id => exact hl
 | goto l => exact hl
 | ret => exact hl
 | panic ch => exact hl
 | outgrown => exact hl
theorem Ok.loopNO {P : Program} {N : Nat} {c : Code} {Q : Exit->St->Prop} {S : List (Nat × AV)} {O : List (Nat × AO)} {α : Type} (ks : List Nat) (u : Nat->α->List (Nat × AV)) (ou : Nat->α->List (Nat × AO)) (len : Nat) (I : Nat->α->Prop)
 (a0 : α) (hI : I 0 a0) (hw : Wk N ⟨S,O⟩ (updSt ks (u 0 a0) (ou 0 a0) S O))
 (hr : ∀ (R : Exit->St->Prop) (i : Nat) (a : α),(∀ a' st,i < len->I (i + 1) a'->Wk N st (updSt ks (u (i + 1) a') (ou (i + 1) a') S O)->R .normal st)->(∀ e st,e ≠ .normal->Q e st->R e st)->i<=len->I i a ->
  Ok P N c R (updSt ks (u i a) (ou i a) S O)) : Ok P N (.loop c) Q ⟨S,O⟩ :=
 Ok.loopO (fun n st => ∃ i a,n=len - i∧i<=len∧I i a∧st=updSt ks (u i a) (ou i a) S O) len hw ⟨0,a0,rfl,Nat.zero_le _,hI,rfl⟩ fun n st ⟨i,a,h1,h2,hI,h⟩ => by
  subst h
  refine hr _ i a (fun a' st hlt hI' hw' => ⟨len - (i + 1),_,by omega,hw',i + 1,a',rfl,hlt,hI',rfl⟩) (fun e st h1 h2 => ?_) h2 hI
  cases e<;>first | exact absurd rfl h1 | exact h2
theorem Ok.block {P : Program} {N id : Nat} {c : Code} {Q : Exit->St->Prop} {st : St} (h : Ok P N c (blockQ id Q) st) : Ok P N (.block id c) Q st:=fun h1 h2 Z B M w0 a w hs => by
 refine sw_mono c (h h1 h2 Z B M w0 a w hs) fun e a w hl => ?_
 cases e with
 | exit id' =>
   obtain ⟨st',hs',hk⟩:=hl
   simp only [blockQ] at hk
   simp only [Exit.inBlock]
   split
   . rename_i e; rw [if_pos e] at hk; exact ⟨st',hs',hk⟩
   . rename_i e; rw [if_neg e] at hk; exact ⟨st',hs',hk⟩
 | normal => exact hl
 | goto l => exact hl
 | ret => exact hl
 | panic ch => exact hl
 | outgrown => exact hl
end Abs
