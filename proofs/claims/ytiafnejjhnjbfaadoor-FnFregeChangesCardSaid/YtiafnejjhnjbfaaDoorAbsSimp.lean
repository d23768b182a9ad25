/- The abstract walk, in the form in which simp carries it out: what comes later stands as a function that is not yet applied. No condition. -/
import Derived.Test.YtiafnejjhnjbfaaDoorAbsCode
set_option linter.all false
namespace Abs
open Go Go.RowKit

def onS (x : Option (Prop × St)) (f : St->Prop) : Prop :=
 match x with
 | some (c,s) => c∧f s
 | none => False
def onV (x : Option (Prop × AV)) (f : AV->Prop) : Prop :=
 match x with
 | some (c,s) => c∧f s
 | none => False
def onD (x : Option (Prop × D)) (f : AV->Prop) : Prop :=
 match x with
 | some (c,s) => c∧f (.d s)
 | none => False
@[go_sem] theorem onS_some (c s f) : onS (some (c,s)) f=(c∧f s):=rfl
@[go_sem] theorem onV_some (c s f) : onV (some (c,s)) f=(c∧f s):=rfl
@[go_sem] theorem onD_some (c s f) : onD (some (c,s)) f=(c∧f (.d s)):=rfl

def gsel (b : Bool) (R S : St->Prop) (st : St) : Prop:=(b=true->R st)∧(b=false->S st)
@[go_sem] theorem gsel_true (R S st) : gsel true R S st=R st:=by simp [gsel]
@[go_sem] theorem gsel_false (R S st) : gsel false R S st=S st:=by simp [gsel]
theorem gsel_split {b R S st} (h : b=true->R st) (h' : b=false->S st) : gsel b R S st:=⟨h,h'⟩

def onG (x : Option AV) (want : Bool) (R S : St->Prop) (st : St) : Prop :=
 match x with
 | some (.d (.bool b)) => (b=want->R st)∧(b ≠ want->S st)
 | some (.tup _) => S st
 | _ => False
@[go_sem] theorem onG_true (b R S st) : onG (some (.d (.bool b))) true R S st=gsel b R S st:=by cases b<;>simp [onG,gsel]
@[go_sem] theorem onG_false (b R S st) : onG (some (.d (.bool b))) false R S st=gsel b S R st:=by cases b<;>simp [onG,gsel]
@[go_sem] theorem onG_skip (xs want R S st) : onG (some (.tup xs)) want R S st=S st:=rfl
def onC (x : Option AV) (R S : St->Prop) (st : St) : Prop :=
 match x with
 | some (.d (.bool b)) => gsel b R S st
 | _ => False
@[go_sem] theorem onC_bool (b R S st) : onC (some (.d (.bool b))) R S st=gsel b R S st:=rfl

def callX (P : Program) (N : Nat) (f : FuncId) (avs : List AV) (dst : Option Nat) (K : St->Prop) (st : St) : Prop :=
 (∃ d sh res oo,dst=some d∧(match (if sh then datas avs else views P st.o avs) with | some xs => Ctr P f xs sh res oo | none => False)∧d < N∧K (impSt st d (100000 * (d + 1)) res oo)) ∨
  callMut P N st dst f avs K
theorem callX_new {P N f avs st d K xs res oo} (hs : Ctr P f xs false res oo) (hv : views P st.o avs=some xs) (hd : d < N) (hK : K (impSt st d (100000 * (d + 1)) res oo)) : callX P N f avs (some d) K st :=
 .inl ⟨d,false,res,oo,rfl,by simp only [Bool.false_eq_true,if_false,hv]; exact hs,hd,hK⟩
theorem callX_shared {P N f avs st d K xs res oo} (hs : Ctr P f xs true res oo) (hv : datas avs=some xs) (hd : d < N) (hK : K (impSt st d (100000 * (d + 1)) res oo)) : callX P N f avs (some d) K st :=
 .inl ⟨d,true,res,oo,rfl,by simp only [if_true,hv]; exact hs,hd,hK⟩
theorem callX_mut {P N f cavs st dst K} (κ ρ ks : List Nat) {avs oi keep sh res oo} (hs : CtrM P f avs oi keep sh res oo) (hp : passM P (delL ((keysO oi).map (nth κ)) st.o) (nth κ) sh cavs avs) (ho : objsM st (nth κ) oi)
 (hn : namesOK κ ρ ks keep (keysO oi) (keysO oo)=true) (hd : dstB N dst) (hK : K (impM st dst (nth ρ) ks res oo)) : callX P N f cavs dst K st :=
 .inr ⟨κ,ρ,ks,avs,oi,keep,sh,_,hs.rel,hp,ho,namesI_of hn,hd,fun r o ⟨e1,e2⟩ => by subst e1; subst e2; exact ⟨hn,hK⟩⟩
theorem callX_rel {P N f cavs st dst K} (κ ρ ks : List Nat) {avs oi keep sh R} (hs : CtrR P f avs oi keep sh R) (hp : passM P (delL ((keysO oi).map (nth κ)) st.o) (nth κ) sh cavs avs) (ho : objsM st (nth κ) oi)
 (hn : namesI κ (keysO oi)=true) (hd : dstB N dst) (hK : ∀ res oo,R res oo->namesOK κ ρ ks keep (keysO oi) (keysO oo)=true∧K (impM st dst (nth ρ) ks res oo)) : callX P N f cavs dst K st :=
 .inr ⟨κ,ρ,ks,avs,oi,keep,sh,R,hs,hp,ho,hn,hd,hK⟩
def callY (P : Program) (f : FuncId) (avs : List AV) (K : AV->Prop) (st : St) : Prop :=
 ∃ sh res,((match (if sh then datas avs else views P st.o avs) with | some xs => Ctr P f xs sh (.d res) [] | none => False)∨callV P f st.o avs res)∧K (.d res)
theorem callY_new {P f avs st K xs res} (hs : Ctr P f xs false (.d res) []) (hv : views P st.o avs=some xs) (hK : K (.d res)) : callY P f avs K st :=
 ⟨false,res,.inl (by simp only [Bool.false_eq_true,if_false,hv]; exact hs),hK⟩
theorem callY_shared {P f avs st K xs res} (hs : Ctr P f xs true (.d res) []) (hv : datas avs=some xs) (hK : K (.d res)) : callY P f avs K st :=
 ⟨true,res,.inl (by simp only [if_true,hv]; exact hs),hK⟩
def callZ (P : Program) (N : Nat) (f : FuncId) (avs : List AV) (dst : Option Nat) (K : St->Prop) (st : St) : Prop :=
 ∃ d sh res oo,dst=some d∧(match (if sh then datas avs else views P st.o avs) with | some xs => Ctr P f xs sh res oo | none => False)∧d < N∧K (impSt st d (100000 * (d + 1)) res oo)
theorem callZ_new {P N f avs st d K xs res oo} (hs : Ctr P f xs false res oo) (hv : views P st.o avs=some xs) (hd : d < N) (hK : K (impSt st d (100000 * (d + 1)) res oo)) : callZ P N f avs (some d) K st :=
 ⟨d,false,res,oo,rfl,by simp only [Bool.false_eq_true,if_false,hv]; exact hs,hd,hK⟩
def onCall (P : Program) (N : Nat) (x : Option AV) (avs : Option (List AV)) (dst : Option Nat) (K : St->Prop) (st : St) : Prop :=
 match x,avs with
 | some (.fn (.func f) caps),some avs => callX P N f (avs++caps) dst K st
 | some (.d z), some avs => match boundOf z with
   | some (f,y) => callZ P N f (.d y :: avs) dst K st
   | none => False
 | _,_ => False
@[go_sem] theorem onCall_bound (P N f y avs st dst K) : onCall P N (some (.d (.fn (.func f) [y] []))) (some avs) dst K st=callZ P N f (.d y :: avs) dst K st:=rfl
@[go_sem] theorem argV_fnb (f y) : argV (.fn f [y] [])=.d (.fn f [y] []):=rfl
@[go_sem] theorem onCall_eq (P N f caps avs st dst K) : onCall P N (some (.fn (.func f) caps)) (some avs) dst K st=callX P N f (avs++caps) dst K st:=rfl
def onCallY (P : Program) (x : Option AV) (avs : Option (List AV)) (K : AV->Prop) (st : St) : Prop :=
 match x,avs with
 | some (.fn (.func f) caps),some avs => callY P f (avs++caps) K st
 | _,_ => False
@[go_sem] theorem onCallY_eq (P f caps avs st K) : onCallY P (some (.fn (.func f) caps)) (some avs) K st=callY P f (avs++caps) K st:=rfl

inductive OpsW (P : Program) (N : Nat) (ops r : List Oper) (st : St) (K : St->Prop) : Prop
 | mk (h : opsA P N ops r st K)
inductive HeadW (P : Program) (N : Nat) (l r : List Oper) (st : St) (K : St->Prop) : Prop
 | mk (h : headA P N l r st K)
inductive Awp (P : Program) (N : Nat) (c : Code) (Q : Exit->St->Prop) (st : St) : Prop
 | mk (h : awp P N c Q st)
theorem OpsW_eq {P N ops r st K} : OpsW P N ops r st K=opsA P N ops r st K:=propext ⟨fun h => h.1,.mk⟩
theorem HeadW_eq {P N l r st K} : HeadW P N l r st K=headA P N l r st K:=propext ⟨fun h => h.1,.mk⟩
theorem Awp_eq {P N c Q} : Awp P N c Q=awp P N c Q:=funext fun _ => propext ⟨fun h => h.1,.mk⟩

def onL (x : Option (Prop × AV)) (f : AV->Prop) (g : St->Prop) (st : St) : Prop :=
 match x with
 | some (c,s) => c∧f s
 | none => g st
@[go_sem] theorem onL_some (c s f g st) : onL (some (c,s)) f g st=(c∧f s):=rfl
@[go_sem] theorem onL_none (f g st) : onL none f g st=g st:=rfl

def kPut (P : Program) (N : Nat) (ops : List Oper) (dst : Option Nat) (r : List Oper) (K : St->Prop) (st : St) (av : AV) : Prop:=dstB N dst∧OpsW P N ops r (st.put dst av) K
@[go_sem] theorem kPut_some (P N ops d r K st av) : kPut P N ops (some d) r K st av=(d < N∧OpsW P N ops r (st.put (some d) av) K):=rfl
def kSt (P : Program) (N : Nat) (ops : List Oper) (dst : Option Nat) (r : List Oper) (K : St->Prop) (st : St) : Prop:=dstB N dst∧OpsW P N ops r st K
@[go_sem] theorem kSt_some (P N ops d r K st) : kSt P N ops (some d) r K st=(d < N∧OpsW P N ops r st K):=rfl
@[go_sem] theorem kSt_none (P N ops r K st) : kSt P N ops none r K st=OpsW P N ops r st K:=by simp [kSt,dstB]
def kOps (P : Program) (N : Nat) (ops r : List Oper) (K : St->Prop) (st : St) : Prop:=OpsW P N ops r st K
@[go_sem] theorem kOps_eq (P N ops r K st) : kOps P N ops r K st=OpsW P N ops r st K:=rfl
def kSkip (P : Program) (N : Nat) (ops : List Oper) (dst : Option Nat) (r : List Oper) (K : St->Prop) (st : St) : Prop:=dstB N dst∧OpsW P N ops r (st.put dst skipV) K
@[go_sem] theorem kSkip_some (P N ops d r K st) : kSkip P N ops (some d) r K st=(d < N∧OpsW P N ops r (st.put (some d) skipV) K):=rfl
def runO (P : Program) (N : Nat) (ops : List Oper) (dst : Option Nat) (op : Op) (ty : TypeId) (r : List Oper) (K : St->Prop) (st : St) : Prop :=
 opA P N st ⟨dst, op, ty, "", #[], none⟩ fun st' => OpsW P N ops r st' K

@[go_sem] theorem opsA_nil (P N ops st K) : OpsW P N ops [] st K=K st:=by rw [OpsW_eq]; rfl
@[go_sem] theorem opsA_plain (P N ops st dst op ty pos after r K) : OpsW P N ops (⟨dst,op,ty,pos,after,none⟩ :: r) st K=runO P N ops dst op ty r K st:=by simp only [OpsW_eq,runO]; rfl

def dstOf (ops : List Oper) (j : Nat) : Option Nat:=(ops[j]?).bind (·.dst)
@[go_sem] theorem dstOf_zero (dst op ty pos after g r) : dstOf (⟨dst,op,ty,pos,after,g⟩ :: r) 0=dst:=rfl
@[go_sem] theorem dstOf_succ (o r n) : dstOf (o :: r) (n + 1)=dstOf r n:=by simp [dstOf]
def onGd (x : Option Nat) (want : Bool) (R S : St->Prop) (st : St) : Prop :=
 match x with
 | some d => onG (lk d st.s) want R S st
 | none => False
@[go_sem] theorem onGd_some (d st want R S) : onGd (some d) want R S st=onG (lk d st.s) want R S st:=rfl

theorem guardA_eq {ops : List Oper} {st dst op ty pos after j want} {R S : St->Prop} : guardA ops st ⟨dst,op,ty,pos,after,some (j,want)⟩ (R st) (S st)=onGd (dstOf ops j) want R S st:=by
 unfold guardA onGd dstOf onG
 cases h : (ops[j]?).bind (·.dst) with
 | none => simp only [h]
 | some d => simp only [h]; rfl
@[go_sem] theorem opsA_guard (P N ops st dst op ty pos after j want r K) : OpsW P N ops (⟨dst, op, ty, pos, after, some (j, want)⟩ :: r) st K =
 onGd (dstOf ops j) want (runO P N ops dst op ty r K) (kSkip P N ops dst r K) st:=by
  rw [← guardA_eq (st:=st) (dst:=dst) (op:=op) (ty:=ty) (pos:=pos) (after:=after)]
  simp only [OpsW_eq,runO,kSkip]; rfl

section
variable (P : Program) (N : Nat) (ops : List Oper) (dst : Option Nat) (ty : TypeId) (r : List Oper) (K : St->Prop) (st : St)

theorem runO_q {op : Op} (h1 : nilA P st dst op ty=none) (h2 : lv P st dst op ty=none) (h3 : ∀ c,op=.call c->∀ x,c.callee ≠ .value x)
 (h4 : ∀ b t x y u K,op=.binOp b t x y u->nilCmpA P N st dst b t x y K=False:=by (intros; first | contradiction | (rename_i h; cases h; done) | (rename_i h; cases h; rfl))) :
 runO P N ops dst op ty r K st=onV (qv P st op) (kPut P N ops dst r K st):=by
 unfold runO opA onV kPut
 simp only [h1,h2]
 cases hq : qv P st op with
 | some p => rfl
 | none =>
   simp only
   cases op<;>try rfl
   . exact h4 _ _ _ _ _ _ rfl
   . rename_i c
     simp only [callA]
     split
     . exact absurd ‹_› (h3 c rfl _)
     . rfl
theorem runO_l {op : Op} (h1 : nilA P st dst op ty=none) (h2 : qv P st op=none) (h3 : ∀ c,op=.call c->∀ x,c.callee ≠ .value x)
 (h4 : ∀ b t x y u,op ≠ .binOp b t x y u:=by (intros; simp)) :
 runO P N ops dst op ty r K st=onS (lv P st dst op ty) (kSt P N ops dst r K):=by
 unfold runO opA onS kSt
 simp only [h1,h2]
 cases hq : lv P st dst op ty with
 | some p => rfl
 | none =>
   simp only
   cases op<;>try rfl
   . exact absurd rfl (h4 _ _ _ _ _)
   . rename_i c
     simp only [callA]
     split
     . exact absurd ‹_› (h3 c rfl _)
     . rfl

@[go_sem] theorem runO_move (x) : runO P N ops dst (.move x) ty r K st=onV (qv P st (.move x)) (kPut P N ops dst r K st):=runO_q P N ops dst ty r K st rfl rfl (by simp)
@[go_sem] theorem runO_assignT (t) : runO P N ops dst (.assign (.tmp t)) ty r K st=onV (qv P st (.assign (.tmp t))) (kPut P N ops dst r K st):=runO_q P N ops dst ty r K st rfl rfl (by simp)
@[go_sem] theorem runO_assignI (k n) : runO P N ops dst (.assign (.const (.int k n))) ty r K st=onV (qv P st (.assign (.const (.int k n)))) (kPut P N ops dst r K st):=runO_q P N ops dst ty r K st rfl rfl (by simp)
@[go_sem] theorem runO_assignB (b) : runO P N ops dst (.assign (.const (.bool b))) ty r K st=onV (qv P st (.assign (.const (.bool b)))) (kPut P N ops dst r K st):=runO_q P N ops dst ty r K st rfl rfl (by simp)
@[go_sem] theorem runO_assignStr (s) : runO P N ops dst (.assign (.const (.string s))) ty r K st=onV (qv P st (.assign (.const (.string s)))) (kPut P N ops dst r K st):=runO_q P N ops dst ty r K st rfl rfl (by simp)
@[go_sem] theorem runO_assignP : runO P N ops dst (.assign (.const (.pointer none))) ty r K st=onV (qv P st (.assign (.const (.pointer none)))) (kPut P N ops dst r K st):=runO_q P N ops dst ty r K st rfl rfl (by simp)
@[go_sem] theorem runO_assignA (cs) : runO P N ops dst (.assign (.const (.agg cs))) ty r K st=onV (qv P st (.assign (.const (.agg cs)))) (kPut P N ops dst r K st):=runO_q P N ops dst ty r K st rfl rfl (by simp)
@[go_sem] theorem runO_assignN (d) : runO P N ops (some d) (.assign (.const (.slice none 0 0))) ty r K st =
 match elemSl P ty with
 | some e => 0 < P.cellsOf e∧kSt P N ops (some d) r K (newSt d (.sl d) (.arr e (P.cellsOf e) []) st)
 | none => runO P N ops (some d) (.move (.const (.slice none 0 0))) ty r K st:=by
  unfold runO opA
  simp only [nilA]
  cases h : elemSl P ty<;>rfl
@[go_sem] theorem runO_pick (c x y) : runO P N ops dst (.pick c x y) ty r K st=onV (qv P st (.pick c x y)) (kPut P N ops dst r K st):=runO_q P N ops dst ty r K st rfl rfl (by simp)
def kBor (P : Program) (N : Nat) (ops : List Oper) (dst : Option Nat) (t : TypeId) (x : Operand) (r : List Oper) (K : St->Prop) (st : St) : Prop :=
 match dst with
 | some d => onS (borrowA P st d t x) (kSt P N ops dst r K)
 | none => False
@[go_sem] theorem kBor_some (d t x) : kBor P N ops (some d) t x r K st=onS (borrowA P st d t x) (kSt P N ops (some d) r K):=rfl
@[go_sem] theorem runO_load (t x) : runO P N ops dst (.load t x) ty r K st = onL (qv P st (.load t x)) (kPut P N ops dst r K st) (kBor P N ops dst t x r K) st := by
  unfold runO opA onL kPut kBor
  have h1 : nilA P st dst (.load t x) ty=none:=rfl
  simp only [h1]
  cases hq : qv P st (.load t x) with
  | some p => rfl
  | none =>
    cases dst with
    | none => rfl
    | some d =>
      have h2 : lv P st (some d) (.load t x) ty=borrowA P st d t x:=rfl
      simp only [h2,onS,kSt]
      cases borrowA P st d t x<;>rfl
@[go_sem] theorem runO_nilCheck (x) : runO P N ops dst (.nilCheck x) ty r K st=onV (qv P st (.nilCheck x)) (kPut P N ops dst r K st):=runO_q P N ops dst ty r K st rfl rfl (by simp)
@[go_sem] theorem runO_binOpT (o t x y u) : runO P N ops dst (.binOp o t x (.tmp y) u) ty r K st=onV (qv P st (.binOp o t x (.tmp y) u)) (kPut P N ops dst r K st):=runO_q P N ops dst ty r K st rfl rfl (by simp)
@[go_sem] theorem runO_binOpI (o t x k n u) : runO P N ops dst (.binOp o t x (.const (.int k n)) u) ty r K st=onV (qv P st (.binOp o t x (.const (.int k n)) u)) (kPut P N ops dst r K st):=runO_q P N ops dst ty r K st rfl rfl (by simp)
@[go_sem] theorem runO_binOpB (o t x b u) : runO P N ops dst (.binOp o t x (.const (.bool b)) u) ty r K st=onV (qv P st (.binOp o t x (.const (.bool b)) u)) (kPut P N ops dst r K st):=runO_q P N ops dst ty r K st rfl rfl (by simp)
@[go_sem] theorem runO_binOpP (o t x u) : runO P N ops dst (.binOp o t x (.const (.pointer none)) u) ty r K st=onV (qv P st (.binOp o t x (.const (.pointer none)) u)) (kPut P N ops dst r K st):=runO_q P N ops dst ty r K st rfl rfl (by simp)
@[go_sem] theorem runO_binOpS (o t x s u) : runO P N ops dst (.binOp o t x (.const (.string s)) u) ty r K st=onV (qv P st (.binOp o t x (.const (.string s)) u)) (kPut P N ops dst r K st):=runO_q P N ops dst ty r K st rfl rfl (by simp)
def nilK (P : Program) (N : Nat) (ops : List Oper) (d : Nat) (r : List Oper) (K : St->Prop) (neg : Bool) (es : List D) (st : St) : Prop :=
 ∀ b : Bool,(es ≠ []->b=false)->OpsW P N ops r (st.put (some d) (.d (.bool (if neg then !b else b)))) K
@[go_sem] theorem nilK_cons (neg x xs) (d) : nilK P N ops d r K neg (x :: xs) st = OpsW P N ops r (st.put (some d) (.d (.bool neg))) K := by
  apply propext
  constructor
  . intro h; have:=h false (fun _ => rfl); cases neg<;>simpa using this
  . intro h b hb; have:=hb (by simp); subst this; cases neg<;>simpa using h
def onN (x : Option (List D)) (f : List D->St->Prop) (st : St) : Prop :=
 match x with
 | some es => f es st
 | none => False
@[go_sem] theorem onN_some (es f) : onN (some es) f st=f es st:=rfl
@[go_sem] theorem runO_binOpN (d t x u) : runO P N ops (some d) (.binOp .eql t x (.const (.slice none 0 0)) u) ty r K st =
 ((elemSl P t).isSome=true∧d < N∧onN ((ev st x).bind (sliceOf st.o)) (nilK P N ops d r K false) st):=by
  have h1 : qv P st (.binOp .eql t x (.const (.slice none 0 0)) u)=none:=by
   simp only [qv]
   rw [show ev st (.const (.slice none 0 0))=some (.d (.slice [])) from rfl]
   cases h : ev st x with
   | none => rfl
   | some av =>
     cases av<;>try rfl
     rename_i z
     cases z<;>rfl
  unfold runO opA
  simp only [nilA,h1,lv,nilCmpA,onN]
  apply propext
  cases h : (ev st x).bind (sliceOf st.o) with
  | none => simp
  | some es => simp [dstB,nilK]
@[go_sem] theorem runO_unOp (o t x) : runO P N ops dst (.unOp o t x) ty r K st=onV (qv P st (.unOp o t x)) (kPut P N ops dst r K st):=runO_q P N ops dst ty r K st rfl rfl (by simp)
@[go_sem] theorem runO_convert (o t x) : runO P N ops dst (.convert o t x) ty r K st=onV (qv P st (.convert o t x)) (kPut P N ops dst r K st):=runO_q P N ops dst ty r K st rfl rfl (by simp)
@[go_sem] theorem runO_fieldAddr (t x f) : runO P N ops dst (.fieldAddr t x f) ty r K st=onV (qv P st (.fieldAddr t x f)) (kPut P N ops dst r K st):=runO_q P N ops dst ty r K st rfl rfl (by simp)
@[go_sem] theorem runO_field (t x f) : runO P N ops dst (.field t x f) ty r K st=onV (qv P st (.field t x f)) (kPut P N ops dst r K st):=runO_q P N ops dst ty r K st rfl rfl (by simp)
@[go_sem] theorem runO_indexAddr (t x f) : runO P N ops dst (.indexAddr t x f) ty r K st=onV (qv P st (.indexAddr t x f)) (kPut P N ops dst r K st):=runO_q P N ops dst ty r K st rfl rfl (by simp)
@[go_sem] theorem runO_index (t x f) : runO P N ops dst (.index t x f) ty r K st=onV (qv P st (.index t x f)) (kPut P N ops dst r K st):=runO_q P N ops dst ty r K st rfl rfl (by simp)
@[go_sem] theorem runO_extract (x f) : runO P N ops dst (.extract x f) ty r K st=onV (qv P st (.extract x f)) (kPut P N ops dst r K st):=runO_q P N ops dst ty r K st rfl rfl (by simp)
@[go_sem] theorem runO_makeFunc (x f c) : runO P N ops dst (.makeFunc x f c) ty r K st=onV (qv P st (.makeFunc x f c)) (kPut P N ops dst r K st):=runO_q P N ops dst ty r K st rfl rfl (by simp)
@[go_sem] theorem runO_box (t x) : runO P N ops dst (.box t x) ty r K st=onS (lv P st dst (.box t x) ty) (kSt P N ops dst r K):=runO_l P N ops dst ty r K st rfl rfl (by simp)
@[go_sem] theorem runO_alloc (t) : runO P N ops dst (.alloc t) ty r K st=onS (lv P st dst (.alloc t) ty) (kSt P N ops dst r K):=runO_l P N ops dst ty r K st rfl rfl (by simp)
@[go_sem] theorem runO_build (t ps) : runO P N ops dst (.build t ps) ty r K st=onS (lv P st dst (.build t ps) ty) (kSt P N ops dst r K):=runO_l P N ops dst ty r K st rfl rfl (by simp)
@[go_sem] theorem runO_buildSlice (t n ps) : runO P N ops dst (.buildSlice t n ps) ty r K st=onS (lv P st dst (.buildSlice t n ps) ty) (kSt P N ops dst r K):=runO_l P N ops dst ty r K st rfl rfl (by simp)
@[go_sem] theorem runO_makeSlice (t l c) : runO P N ops dst (.makeSlice t l c) ty r K st=onS (lv P st dst (.makeSlice t l c) ty) (kSt P N ops dst r K):=runO_l P N ops dst ty r K st rfl rfl (by simp)
@[go_sem] theorem runO_slice (t x l h) : runO P N ops dst (.slice t x l h none) ty r K st=onS (lv P st dst (.slice t x l h none) ty) (kSt P N ops dst r K):=runO_l P N ops dst ty r K st rfl rfl (by simp)
@[go_sem] theorem runO_lookup (t m x co) : runO P N ops dst (.lookup t m x co) ty r K st=onV (qv P st (.lookup t m x co)) (kPut P N ops dst r K st):=runO_q P N ops dst ty r K st rfl (by cases dst<;>rfl) (by simp)
@[go_sem] theorem runO_makeMap (t) : runO P N ops dst (.makeMap t none) ty r K st=onS (lv P st dst (.makeMap t none) ty) (kSt P N ops dst r K):=runO_l P N ops dst ty r K st rfl rfl (by simp)
@[go_sem] theorem runO_mapUpdate (t m x v) : runO P N ops dst (.mapUpdate t m x v) ty r K st=onS (lv P st dst (.mapUpdate t m x v) ty) (kSt P N ops dst r K):=runO_l P N ops dst ty r K st rfl rfl (by simp)
@[go_sem] theorem runO_clear (a ts) : runO P N ops dst (.call ⟨.builtin .clear,a,ts⟩) ty r K st=onS (lv P st dst (.call ⟨.builtin .clear,a,ts⟩) ty) (kSt P N ops dst r K):=runO_l P N ops dst ty r K st rfl rfl (by simp)
@[go_sem] theorem runO_slice3 (t x l h m) : runO P N ops dst (.slice t x l h (some m)) ty r K st=onV (e0V P st t x l h (some m)) (kPut P N ops dst r K st):=runO_q P N ops dst ty r K st rfl (by cases dst<;>rfl) (by simp)
@[go_sem] theorem runO_store (t x y) : runO P N ops dst (.store t x y) ty r K st=onS (lv P st dst (.store t x y) ty) (kSt P N ops dst r K):=runO_l P N ops dst ty r K st rfl rfl (by simp)
@[go_sem] theorem runO_len (a ts) : runO P N ops dst (.call ⟨.builtin .len, a, ts⟩) ty r K st = onV (builtinV P st .len a.toList ts.toList) (kPut P N ops dst r K st) := by
  refine runO_q P N ops dst ty r K st rfl ?_ (by simp)
  cases dst<;>rfl
@[go_sem] theorem runO_max (a ts) : runO P N ops dst (.call ⟨.builtin .max, a, ts⟩) ty r K st = onV (builtinV P st .max a.toList ts.toList) (kPut P N ops dst r K st) := by
  refine runO_q P N ops dst ty r K st rfl ?_ (by simp)
  cases dst<;>rfl
@[go_sem] theorem runO_min (a ts) : runO P N ops dst (.call ⟨.builtin .min, a, ts⟩) ty r K st = onV (builtinV P st .min a.toList ts.toList) (kPut P N ops dst r K st) := by
  refine runO_q P N ops dst ty r K st rfl ?_ (by simp)
  cases dst<;>rfl
@[go_sem] theorem runO_append (d a ts) : runO P N ops (some d) (.call ⟨.builtin .append, a, ts⟩) ty r K st = onS (appendA P st d a.toList ts.toList) (kSt P N ops (some d) r K) := by
  refine (runO_l P N ops (some d) ty r K st rfl ?_ (by simp)).trans rfl
  simp only [qv,builtinV]
@[go_sem] theorem runO_call (x a ts) : runO P N ops dst (.call ⟨.value x, a, ts⟩) ty r K st = onCall P N ((ev st x).map fnOf) (evs st a.toList) dst (kOps P N ops r K) st := by
  unfold runO opA
  have h1 : lv P st dst (.call ⟨.value x,a,ts⟩) ty=none:=by cases dst<;>rfl
  simp only [nilA,qv,h1,callA]
  unfold onCall kOps
  cases h4 : (ev st x).map fnOf with
  | none => rfl
  | some av =>
    cases av<;>rfl
end

def kHd (P : Program) (N : Nat) (l r : List Oper) (dst : Option Nat) (K : St->Prop) (st : St) (av : AV) : Prop:=HeadW P N l r (st.put dst av) K
@[go_sem] theorem kHd_eq (P N l r dst K st av) : kHd P N l r dst K st av=HeadW P N l r (st.put dst av) K:=Eq.trans rfl rfl
def kHs (P : Program) (N : Nat) (l r : List Oper) (dst : Option Nat) (K : St->Prop) (st : St) : Prop:=HeadW P N l r (st.put dst skipV) K
@[go_sem] theorem kHs_eq (P N l r dst K st) : kHs P N l r dst K st=HeadW P N l r (st.put dst skipV) K:=Eq.trans rfl rfl
def runH (P : Program) (N : Nat) (l : List Oper) (dst : Option Nat) (op : Op) (r : List Oper) (K : St->Prop) (st : St) : Prop :=
 hopA P st ⟨dst, op, 0, "", #[], none⟩ fun av => HeadW P N l r (st.put dst av) K
@[go_sem] theorem headA_nil (P N l st K) : HeadW P N l [] st K=K st:=by rw [HeadW_eq]; rfl
@[go_sem] theorem headA_plain (P N l st d op ty pos after r K) : HeadW P N l (⟨some d,op,ty,pos,after,none⟩ :: r) st K=(d < N∧runH P N l (some d) op r K st):=by simp only [HeadW_eq,runH]; rfl
@[go_sem] theorem headA_guard (P N l st d op ty pos after j want r K) : HeadW P N l (⟨some d, op, ty, pos, after, some (j, want)⟩ :: r) st K =
 (d < N∧onGd (dstOf l j) want (runH P N l (some d) op r K) (kHs P N l r (some d) K) st):=by
  rw [← guardA_eq (st:=st) (dst:=some d) (op:=op) (ty:=ty) (pos:=pos) (after:=after)]
  simp only [HeadW_eq,runH,kHs]; rfl
section
variable (P : Program) (N : Nat) (l : List Oper) (dst : Option Nat) (r : List Oper) (K : St->Prop) (st : St)
theorem runH_q {op : Op} (h2 : hv P st op=none) (h3 : ∀ c,op=.call c->∀ x,c.callee ≠ .value x) : runH P N l dst op r K st=onV (qv P st op) (kHd P N l r dst K st):=by
 unfold runH hopA onV kHd
 simp only [h2]
 cases hq : qv P st op with
 | some p => rfl
 | none =>
   simp only
   cases op<;>try rfl
   rename_i c
   simp only
   cases hc : c.callee<;>try rfl
   exact absurd hc (h3 c rfl _)
theorem runH_h {op : Op} (h2 : qv P st op=none) (h3 : ∀ c,op ≠ .call c) : runH P N l dst op r K st=onV (hv P st op) (kHd P N l r dst K st):=by
 unfold runH hopA onV kHd
 simp only [h2]
 cases hq : hv P st op with
 | some p => rfl
 | none => cases op<;>first | rfl | exact absurd rfl (h3 _)
@[go_sem] theorem runH_move (x) : runH P N l dst (.move x) r K st=onV (qv P st (.move x)) (kHd P N l r dst K st):=runH_q P N l dst r K st rfl (by simp)
@[go_sem] theorem runH_assign (x) : runH P N l dst (.assign x) r K st=onV (qv P st (.assign x)) (kHd P N l r dst K st):=runH_q P N l dst r K st rfl (by simp)
@[go_sem] theorem runH_pick (c x y) : runH P N l dst (.pick c x y) r K st=onV (qv P st (.pick c x y)) (kHd P N l r dst K st):=runH_q P N l dst r K st rfl (by simp)
@[go_sem] theorem runH_load (t x) : runH P N l dst (.load t x) r K st=onV (qv P st (.load t x)) (kHd P N l r dst K st):=runH_q P N l dst r K st rfl (by simp)
@[go_sem] theorem runH_nilCheck (x) : runH P N l dst (.nilCheck x) r K st=onV (qv P st (.nilCheck x)) (kHd P N l r dst K st):=runH_q P N l dst r K st rfl (by simp)
@[go_sem] theorem runH_binOp (o t x y u) : runH P N l dst (.binOp o t x y u) r K st=onV (qv P st (.binOp o t x y u)) (kHd P N l r dst K st):=runH_q P N l dst r K st rfl (by simp)
@[go_sem] theorem runH_unOp (o t x) : runH P N l dst (.unOp o t x) r K st=onV (qv P st (.unOp o t x)) (kHd P N l r dst K st):=runH_q P N l dst r K st rfl (by simp)
@[go_sem] theorem runH_convert (o t x) : runH P N l dst (.convert o t x) r K st=onV (qv P st (.convert o t x)) (kHd P N l r dst K st):=runH_q P N l dst r K st rfl (by simp)
@[go_sem] theorem runH_fieldAddr (t x f) : runH P N l dst (.fieldAddr t x f) r K st=onV (qv P st (.fieldAddr t x f)) (kHd P N l r dst K st):=runH_q P N l dst r K st rfl (by simp)
@[go_sem] theorem runH_field (t x f) : runH P N l dst (.field t x f) r K st=onV (qv P st (.field t x f)) (kHd P N l r dst K st):=runH_q P N l dst r K st rfl (by simp)
@[go_sem] theorem runH_indexAddr (t x f) : runH P N l dst (.indexAddr t x f) r K st=onV (qv P st (.indexAddr t x f)) (kHd P N l r dst K st):=runH_q P N l dst r K st rfl (by simp)
@[go_sem] theorem runH_index (t x f) : runH P N l dst (.index t x f) r K st=onV (qv P st (.index t x f)) (kHd P N l r dst K st):=runH_q P N l dst r K st rfl (by simp)
@[go_sem] theorem runH_extract (x f) : runH P N l dst (.extract x f) r K st=onV (qv P st (.extract x f)) (kHd P N l r dst K st):=runH_q P N l dst r K st rfl (by simp)
@[go_sem] theorem runH_makeFunc (x f c) : runH P N l dst (.makeFunc x f c) r K st=onV (qv P st (.makeFunc x f c)) (kHd P N l r dst K st):=runH_q P N l dst r K st rfl (by simp)
@[go_sem] theorem runH_builtin (b a ts) : runH P N l dst (.call ⟨.builtin b,a,ts⟩) r K st=onV (builtinV P st b a.toList ts.toList) (kHd P N l r dst K st):=runH_q P N l dst r K st rfl (by simp)
@[go_sem] theorem runH_build (t ps) : runH P N l dst (.build t ps) r K st=onV (hv P st (.build t ps)) (kHd P N l r dst K st):=runH_h P N l dst r K st rfl (by simp)
@[go_sem] theorem runH_buildSlice (t n ps) : runH P N l dst (.buildSlice t n ps) r K st=onV (hv P st (.buildSlice t n ps)) (kHd P N l r dst K st):=runH_h P N l dst r K st rfl (by simp)
@[go_sem] theorem runH_slice (t x lo hi) : runH P N l dst (.slice t x lo hi none) r K st=onV (hv P st (.slice t x lo hi none)) (kHd P N l r dst K st):=runH_h P N l dst r K st rfl (by simp)
@[go_sem] theorem runH_call (d x a ts) : runH P N l (some d) (.call ⟨.value x, a, ts⟩) r K st = onCallY P ((ev st x).map fnOf) (evs st a.toList) (kHd P N l r (some d) K st) st := by
  unfold runH hopA onCallY kHd
  simp only [qv,hv]
  cases h4 : (ev st x).map fnOf with
  | none => rfl
  | some av =>
    cases av<;>try rfl
    rename_i f caps
    cases f<;>try rfl
    cases h5 : evs st a.toList with
    | none => rfl
    | some avs =>
      simp only [callY,Option.isSome_some,true_and]
      rfl
end
def kTl (P : Program) (N : Nat) (ops r : List Oper) (K : St->Prop) (st : St) : Prop:=OpsW P N ops r st K
@[go_sem] theorem kTl_eq (P N ops r K st) : kTl P N ops r K st=OpsW P N ops r st K:=rfl

@[go_sem] theorem awp_skip (P N Q st) : Awp P N .skip Q st=Q .normal st:=by rw [Awp_eq]; rfl
@[go_sem] theorem awp_exit (P N id Q st) : Awp P N (.exit id) Q st=Q (.exit id) st:=by rw [Awp_eq]; rfl
@[go_sem] theorem awp_ret (P N Q st) : Awp P N .ret Q st=Q .ret st:=by rw [Awp_eq]; rfl
@[go_sem] theorem awp_seq (P N x y Q st) : Awp P N (.seq x y) Q st=Awp P N x (seqQ (Awp P N y Q) Q) st:=by simp only [Awp_eq]; rfl
@[go_sem] theorem awp_block (P N id c Q st) : Awp P N (.block id c) Q st=Awp P N c (blockQ id Q) st:=by simp only [Awp_eq]; rfl
@[go_sem] theorem awp_cond (P N c x y Q st) : Awp P N (.cond c x y) Q st = onC (ev st c) (Awp P N x Q) (Awp P N y Q) st := by
  simp only [Awp_eq]
  show (match ev st c with
   | some (.d (.bool b)) => (b=true->awp P N x Q st)∧(b=false->awp P N y Q st)
   | _ => False)=_
  unfold onC gsel
  rfl
@[go_sem] theorem awp_rangeFunc (P N g ps x y Q st) : Awp P N (.rangeFunc g ps x y) Q st=Ok P N (.rangeFunc g ps x y) Q st:=by rw [Awp_eq]; rfl
@[go_sem] theorem awp_loop (P N c Q st) : Awp P N (.loop c) Q st=Ok P N (.loop c) Q st:=by rw [Awp_eq]; rfl
@[go_sem] theorem awp_region (P N id ops Q st) : Awp P N (.region id ops false) Q st=OpsW P N ops.toList ops.toList st (Q .normal):=by rw [Awp_eq,OpsW_eq]; rfl
def takeH : List Oper->List Oper
 | [] => []
 | o :: r => bif loud o then [] else o :: takeH r
def dropH : List Oper->List Oper
 | [] => []
 | o :: r => bif loud o then o :: r else dropH r
theorem takeH_eq : ∀ l : List Oper,l.take (headN l)=takeH l∧l.drop (headN l)=dropH l
 | [] => ⟨rfl,rfl⟩
 | o :: r => by
   obtain ⟨h1,h2⟩:=takeH_eq r
   unfold headN at *
   rw [List.findIdx_cons]
   cases h : loud o<;>simp [takeH,dropH,h,h1,h2]
theorem awp_drawn (P N id ops Q st) (hc : (!pref3 ops.toList && (!pref7 ops.toList && regionOK ops.toList (headN ops.toList)))=true) : Awp P N (.region id ops true) Q st =
 HeadW P N ops.toList (takeH ops.toList) st (kTl P N ops.toList (dropH ops.toList) (Q .normal)):=by
 simp only [Bool.and_eq_true,Bool.not_eq_true'] at hc
 rw [Awp_eq,HeadW_eq]
 show (if pref3 ops.toList then _ else if pref7 ops.toList then _ else if regionOK ops.toList (headN ops.toList) then _ else _)=_
 rw [if_neg (by rw [hc.1]; simp),if_neg (by rw [hc.2.1]; simp),if_pos hc.2.2]
 show _=headA P N ops.toList (takeH ops.toList) st (fun st' => kTl P N ops.toList (dropH ops.toList) (Q .normal) st'); simp only [kTl,OpsW_eq]; rw [← (takeH_eq ops.toList).1,← (takeH_eq ops.toList).2]
def takeC : List Oper->List Oper
 | [] => []
 | o :: r => bif isCallV o then [] else o :: takeC r
def dropC : List Oper->List Oper
 | [] => []
 | o :: r => bif isCallV o then o :: r else dropC r
def kL3 (P : Program) (N : Nat) (ops r : List Oper) (K : St->Prop) (st : St) : Prop:=HeadW P N ops r st K
@[go_sem] theorem kL3_eq (P N ops r K st) : kL3 P N ops r K st=HeadW P N ops r st K:=rfl
def kC3 (P : Program) (N : Nat) (ops r : List Oper) (K : St->Prop) (st : St) : Prop:=OpsW P N ops (r.take 1) st (kL3 P N ops (r.drop 1) K)
@[go_sem] theorem kC3_eq (P N ops o r K st) : kC3 P N ops (o :: r) K st=OpsW P N ops [o] st (kL3 P N ops r K):=rfl
attribute [go_sem] takeC dropC isCallV
def kTl2 (P : Program) (N : Nat) (ops h r : List Oper) (K : St->Prop) (st : St) : Prop:=allData st h∧OpsW P N ops r st K
@[go_sem] theorem kTl2_eq (P N ops h r K st) : kTl2 P N ops h r K st=(allData st h∧OpsW P N ops r st K):=rfl
def filtH : List Oper->List Oper
 | [] => []
 | o :: r => bif isH o then o :: filtH r else filtH r
def filtT : List Oper->List Oper
 | [] => []
 | o :: r => bif isT o then o :: filtT r else filtT r
def kTl6 (P : Program) (N : Nat) (ops a r : List Oper) (K : St->Prop) (st : St) : Prop:=noDs st (dstsN a)∧laysD st a∧OpsW P N ops r st K
@[go_sem] theorem kTl6_eq (P N ops a r K st) : kTl6 P N ops a r K st=(noDs st (dstsN a)∧laysD st a∧OpsW P N ops r st K):=rfl
def Fin6 (P : Program) (N : Nat) (l : List Oper) (K : St->Prop) (st : St) (qs as ks r : List Oper) : Prop:=noDs st (dstsN as)∧HeadW P N l qs st (kTl6 P N l as (as++(ks++r)) K)
@[go_sem] theorem Fin6_eq (P N l K st qs as ks r) : Fin6 P N l K st qs as ks r=(noDs st (dstsN as)∧HeadW P N l qs st (kTl6 P N l as (as++(ks++r)) K)):=rfl
def W6 (P : Program) (N : Nat) (l : List Oper) (K : St->Prop) (st : St) : List Oper->List Oper->List Oper->List Nat->List Oper->Prop
 | qs,as,ks,_,[] => Fin6 P N l K st qs as ks []
 | qs,as,ks,Ds,o :: r => if headable l Ds o then (bif isN o || isKd Ds o then
  (bif isN o then W6 P N l K st qs (as++[o]) (ks++[o].filter (isK6 l)) (o.dst.toList++Ds) r else W6 P N l K st (qs++[o].filter fun o => !isK6 l o) as (ks++[o].filter (isK6 l)) (o.dst.toList++Ds) r)
  else W6 P N l K st (qs++[o].filter fun o => !isK6 l o) as (ks++[o].filter (isK6 l)) Ds r) else Fin6 P N l K st qs as ks (o :: r)
@[go_sem] theorem W6_nil (P N l K st qs as ks Ds) : W6 P N l K st qs as ks Ds []=Fin6 P N l K st qs as ks []:=rfl
attribute [go_sem] isN noDs dstsN laysD layD Option.toList_some List.nil_append
def kS7 (S : St) (acc : List Oper) (S' : St) : Prop:=sameAt S S' acc
@[go_sem] theorem kS7_eq (S acc S') : kS7 S acc S'=sameAt S S' acc:=rfl
mutual
def kT7 (P : Program) (N : Nat) (l : List Oper) (hs : List (Oper × Nat)) : List (Oper × Nat)->(St->Prop)->St->Prop
 | [],K,S => K S
 | (o,j) :: r,K,S => OpsW P N l [o] S (kG7 P N l hs j r K)
def kG7 (P : Program) (N : Nat) (l : List Oper) (hs : List (Oper × Nat)) (j : Nat) (r : List (Oper × Nat)) (K : St->Prop) (S : St) : Prop:=HeadW P N l (floats l j hs) S (kS7 S (floats l j hs))∧kT7 P N l hs r K S
end
def F7 (P : Program) (N : Nat) (l : List Oper) (j : Nat) (S : St) (acc : List Oper) (r : List (Oper × Nat)) : Prop:=HeadW P N l (acc++floats l j r) S (kS7 S (acc++floats l j r))
def kH7 (P : Program) (N : Nat) (l : List Oper) (hs ts : List (Oper × Nat)) (K : St->Prop) (S : St) : Prop:=kT7 P N l hs ts K S
@[go_sem] theorem kH7_eq (P N l hs ts K S) : kH7 P N l hs ts K S=kT7 P N l hs ts K S:=rfl
def fst7 : List (Oper × Nat)->List Oper
 | [] => []
 | (o,_) :: r => o :: fst7 r
def Z7 (P : Program) (N : Nat) (l : List Oper) (K : St->Prop) (st : St) (hs ts : List (Oper × Nat)) (k : Nat) (r : List Oper) : Prop :=
 HeadW P N l (fst7 (hs++(r.zipIdx k).filter fun p => (cl7 l).getD p.2 false)) st (kH7 P N l (hs++(r.zipIdx k).filter fun p => (cl7 l).getD p.2 false) (ts++(r.zipIdx k).filter fun p => !(cl7 l).getD p.2 false) K)
attribute [go_sem] sameAt fst7
attribute [go_sem] filtH filtT isH isT allData slotD isDV insD isDD
attribute [go_sem] takeH dropH loud
@[go_sem] theorem seqQ_normal (K Q st) : seqQ K Q .normal st=K st:=rfl
@[go_sem] theorem seqQ_ret (K Q st) : seqQ K Q .ret st=Q .ret st:=rfl
@[go_sem] theorem seqQ_exit (K Q id st) : seqQ K Q (.exit id) st=Q (.exit id) st:=rfl
@[go_sem] theorem blockQ_normal (id Q st) : blockQ id Q .normal st=Q .normal st:=rfl
@[go_sem] theorem blockQ_ret (id Q st) : blockQ id Q .ret st=Q .ret st:=rfl
@[go_sem] theorem blockQ_exit (id Q id' st) : blockQ id Q (.exit id') st=if id'=id then Q .normal st else Q (.exit id') st:=rfl
@[go_sem] theorem loopQ_ret (N I n Q st) : loopQ N I n Q .ret st=Q .ret st:=rfl
@[go_sem] theorem loopQ_exit (N I n Q id st) : loopQ N I n Q (.exit id) st=Q (.exit id) st:=rfl
section
variable (k : IntKind) (n : Int) (b : Bool) (s : ByteArray) (es : List D) (x y : D) (f : Fn)
@[go_sem] theorem argV_int : argV (.int k n)=.d (.int k n):=rfl
@[go_sem] theorem argV_bool : argV (.bool b)=.d (.bool b):=rfl
@[go_sem] theorem argV_str : argV (.str s)=.d (.str s):=rfl
@[go_sem] theorem argV_slice : argV (.slice es)=.d (.slice es):=rfl
@[go_sem] theorem argV_agg : argV (.agg es)=.d (.agg es):=rfl
@[go_sem] theorem argV_ptr : argV (.ptr x)=.d (.ptr x):=rfl
@[go_sem] theorem argV_nilptr : argV .nilptr=.d .nilptr:=rfl
@[go_sem] theorem fnOf_d (x : D) : fnOf (.d x)=argV x:=rfl
@[go_sem] theorem fnOf_fn (f cs) : fnOf (.fn f cs)=.fn f cs:=rfl
@[go_sem] theorem argV_fn0 : argV (.fn f [] [])=.fn f []:=rfl
@[go_sem] theorem argV_fn1 : argV (.fn f [] [x])=.fn f [.d x]:=rfl
@[go_sem] theorem argV_fn2 : argV (.fn f [] [x,y])=.fn f [.d x,.d y]:=rfl
@[go_sem] theorem argV_fn3 {x y z : D} : argV (.fn f [] [x,y,z])=.fn f [.d x,.d y,.d z]:=rfl
end
attribute [go_sem] St.kill sliceOf e0V noRoomS append0 emptyAV AV.live AV.atoms skipV lk ins St.put ev evA evs cv cD cDs qv lv nilA builtinV intB strB lenV loadV indexV fieldAV hv partsD bound cutV rowV argsS wipeS wipeO AV.has AV.hasL AO.wipe newSt boxO boxCells nz appendD eatD isE0 oneKey append1
attribute [go_sem] appendF storeH storeD borrowA buildD avParts fillA nilZ notD liveP buildS ownPart deepAt eat hasN eatOf cellsAV liveL stOK viewC rowOf partA partAOK setC cutD cutC cutW clearA isSlA cutKey eqLok eqL appendM appendA newsOf storeA dOf dsOf St.frz frzS frzO AV.frz AV.frzL AO.frz
attribute [go_sem] D.fits partD partOK fillD setL setEs impSt AV.shift AV.shiftL AO.shift shiftO shiftA insAll killL views view viewN datas allD AV.mv AV.mvL AO.mv mvO impM nth keysO passM delL del objsM dstB AV.ren AV.renL AO.ren argsA argW marksA keptM
section
variable (k : IntKind) (n : Int) (b : Bool) (s : ByteArray) (es : List D) (x : D) (f : Fn) (m : Nat)
@[go_sem] theorem cells_int : D.cells (.int k n)=[.int k n]:=rfl
@[go_sem] theorem cells_bool : D.cells (.bool b)=[.bool b]:=rfl
@[go_sem] theorem cells_str : D.cells (.str s)=[.str s]:=rfl
@[go_sem] theorem cells_slice : D.cells (.slice es)=[.slice es]:=rfl
@[go_sem] theorem cells_agg : D.cells (.agg es)=es:=rfl
@[go_sem] theorem cells_ptr : D.cells (.ptr x)=[.ptr x]:=rfl
@[go_sem] theorem cells_nilptr : D.cells .nilptr=[.nilptr]:=rfl
@[go_sem] theorem isAgg_int : D.isAgg (.int k n)=false:=rfl
@[go_sem] theorem isAgg_bool : D.isAgg (.bool b)=false:=rfl
@[go_sem] theorem isAgg_str : D.isAgg (.str s)=false:=rfl
@[go_sem] theorem isAgg_slice : D.isAgg (.slice es)=false:=rfl
@[go_sem] theorem isAgg_agg : D.isAgg (.agg es)=true:=rfl
@[go_sem] theorem isAgg_ptr : D.isAgg (.ptr x)=false:=rfl
@[go_sem] theorem isAgg_nilptr : D.isAgg .nilptr=false:=rfl
@[go_sem] theorem isAgg_fn (cs ds : List D) : D.isAgg (.fn f cs ds)=false:=rfl
@[go_sem] theorem atom_int : D.atom (.int k n)=true:=rfl
@[go_sem] theorem atom_bool : D.atom (.bool b)=true:=rfl
@[go_sem] theorem atom_str : D.atom (.str s)=true:=rfl
@[go_sem] theorem atom_slice : D.atom (.slice es)=true:=rfl
@[go_sem] theorem atom_ptr : D.atom (.ptr x)=true:=rfl
@[go_sem] theorem atom_nilptr : D.atom .nilptr=true:=rfl
@[go_sem] theorem bare_int : D.bare (.int k n)=true:=rfl
@[go_sem] theorem bare_bool : D.bare (.bool b)=true:=rfl
@[go_sem] theorem bare_str : D.bare (.str s)=true:=rfl
@[go_sem] theorem bare_nil : D.bare (.slice [])=true:=rfl
@[go_sem] theorem ok_int : D.ok m (.int k n)=(m=1):=propext ⟨fun h => h.1.symm,fun h => ⟨h.symm,by simp [D.cells,D.atom]⟩⟩
@[go_sem] theorem ok_str : D.ok m (.str s)=(m=1):=propext ⟨fun h => h.1.symm,fun h => ⟨h.symm,by simp [D.cells,D.atom]⟩⟩
@[go_sem] theorem ok_agg : D.ok m (.agg es)=(es.length=m∧∀ c ∈ es,c.atom=true):=rfl
end

theorem Ctr.of {P : Program} {f : FuncId} {fn : Func} {c : Code} {n : Nat} {rs : List ResultVar} {xs : List D} {sh : Bool} {res : AV} {oo : List (Nat × AO)} (hf : P.funcs[f]? = some fn) (hb : fn.body=some c)
 (hname : (fn.name == "runtime.NumGoroutine") = false) (hn : fn.ntmps = n) (hrs : fn.results.toList = rs) (hlen : Nat.ble xs.length n = true) (hok : codeOK c = true) (hm : P.follows .mixedOrders = true)
 (h : Awp P n c (retQ P rs sh res oo) ⟨argsS 0 xs,[]⟩) : Ctr P f xs sh res oo:=by
 subst hn; subst hrs
 exact Ctr.of_body hf hb hname (Nat.le_of_ble_eq_true hlen) hok hm (by rw [Awp_eq] at h; exact h)

theorem Ctr.ofK {P : Program} {f : FuncId} {fn : Func} {c : Code} {n : Nat} {rs : List ResultVar} {xs : List D} {sh : Bool} {res : AV} {oo : List (Nat × AO)} (hf : P.funcs[f]? = some fn) (hb : fn.body=some c)
 (hname : (fn.name == "runtime.NumGoroutine") = false) (hn : fn.ntmps = n) (hrs : fn.results.toList = rs) (hlen : Nat.ble xs.length n = true) (hok : codeOK c = true) (hm : P.follows .mixedOrders = true)
 (h : Ok P n c (retQ P rs sh res oo) ⟨argsS 0 xs,[]⟩) : Ctr P f xs sh res oo:=by
 subst hn; subst hrs
 exact Ctr.of_bodyO hf hb hname (Nat.le_of_ble_eq_true hlen) hok hm h
theorem CtrR.of {P : Program} {f : FuncId} {fn : Func} {c : Code} {n : Nat} {rs : List ResultVar} {xs : List AV} {oi : List (Nat × AO)} {keep : List Nat} {sh : Bool} {R : AV->List (Nat × AO)->Prop} (hf : P.funcs[f]? = some fn) (hb : fn.body=some c)
 (hname : (fn.name == "runtime.NumGoroutine") = false) (hn : fn.ntmps = n) (hrs : fn.results.toList = rs) (hlen : Nat.ble xs.length n = true) (hok : codeOK c = true) (hm : P.follows .mixedOrders = true)
 (h : ∀ u,Awp P n c (retR P rs u keep sh R) ⟨marksA u keep++argsA 0 xs,oi⟩) : CtrR P f xs oi keep sh R:=by
 subst hn; subst hrs
 exact CtrR.of_body hf hb hname (Nat.le_of_ble_eq_true hlen) hok hm fun u => by have:=h u; rw [Awp_eq] at this; exact this
theorem CtrM.of {P : Program} {f : FuncId} {fn : Func} {c : Code} {n : Nat} {rs : List ResultVar} {xs : List AV} {oi : List (Nat × AO)} {keep : List Nat} {sh : Bool} {res : AV} {oo : List (Nat × AO)} (hf : P.funcs[f]? = some fn) (hb : fn.body=some c)
 (hname : (fn.name == "runtime.NumGoroutine") = false) (hn : fn.ntmps = n) (hrs : fn.results.toList = rs) (hlen : Nat.ble xs.length n = true) (hok : codeOK c = true) (hm : P.follows .mixedOrders = true)
 (h : ∀ u,Awp P n c (retM P rs u keep sh res oo) ⟨marksA u keep++argsA 0 xs,oi⟩) : CtrM P f xs oi keep sh res oo:=by
 subst hn; subst hrs
 exact CtrM.of_body hf hb hname (Nat.le_of_ble_eq_true hlen) hok hm fun u => by have:=h u; rw [Awp_eq] at this; exact this
theorem CtrR.ofO {P : Program} {f : FuncId} {fn : Func} {c : Code} {n : Nat} {rs : List ResultVar} {xs : List AV} {oi : List (Nat × AO)} {keep : List Nat} {sh : Bool} {R : AV->List (Nat × AO)->Prop} (hf : P.funcs[f]? = some fn) (hb : fn.body=some c)
 (hname : (fn.name == "runtime.NumGoroutine") = false) (hn : fn.ntmps = n) (hrs : fn.results.toList = rs) (hlen : Nat.ble xs.length n = true) (hok : codeOK c = true) (hm : P.follows .mixedOrders = true)
 (h : ∀ u,Ok P n c (retR P rs u keep sh R) ⟨marksA u keep++argsA 0 xs,oi⟩) : CtrR P f xs oi keep sh R:=by
 subst hn; subst hrs
 exact CtrR.of_bodyO hf hb hname (Nat.le_of_ble_eq_true hlen) hok hm h

theorem Packs.nil {st av res} (h : av=res.ren id) : Packs st av res []:=⟨id,h,by simp,by simp⟩
theorem Packs.one {st av res i o} (j : Nat) (h : av=res.ren fun _ => j) (ho : lk j st.o=some (o.ren fun _ => j)) : Packs st av res [(i,o)] :=
 ⟨fun _ => j,h,by simpa using ho,by simp⟩

@[go_sem] theorem ret_d1 (P t x st) : retQ P [.tmp t] false (.d x) [] .ret st = (lk t st.s = some (.d x) ∧ x.plain = true) := by
  apply propext
  simp only [retQ,Bool.false_eq_true,false_and,or_false,retO,resV]
  constructor
  . intro h
    split at h
    . rename_i c avs he
      split at he
      . rename_i v vs h1 h2
        cases h2; cases he
        obtain ⟨_,⟨κ,hk,_⟩,h3⟩:=h
        simp only [oneOf,AV.ren] at hk
        subst hk
        exact ⟨h1,(h3.resolve_left (by simp)).1⟩
      . cases he
    . exact h.elim
  . rintro ⟨h1,h2⟩
    simp only [h1]
    exact ⟨trivial,.nil rfl,.inr ⟨h2,trivial⟩⟩
theorem ret_s1 {P t x st} (js : List Nat) (h : lk t (frzs js st).s=some (.d x)) : retQ P [.tmp t] true (.d x) [] .ret st:=by
 refine .inr ⟨rfl,js,?_⟩
 simp only [retO,resV,h]; exact ⟨trivial,.nil rfl,.inl trivial⟩
theorem ret_s2 {P t u x y st} (js : List Nat) (h : lk t (frzs js st).s=some (.d x)) (h' : lk u (frzs js st).s=some (.d y)) : retQ P [.tmp t,.tmp u] true (.tup [.d x,.d y]) [] .ret st:=by
 refine .inr ⟨rfl,js,?_⟩
 simp only [retO,resV,h,h']; exact ⟨trivial,.nil rfl,.inl trivial⟩
theorem ret_sl {P t st e k es} (j : Nat) (h : lk t st.s=some (.sl j)) (ho : lk j st.o=some (.arr e k es)) (hp : ∀ x ∈ es,x.plain=true) : retQ P [.tmp t] false (.sl 0) [(0,.arr e k es)] .ret st:=by
 simp only [retQ,Bool.false_eq_true,false_and,or_false,retO,resV,h]; exact ⟨trivial,.one j rfl ho,.inr ⟨trivial,hp,trivial⟩⟩
@[go_sem] theorem ret_d2 (P t u x y st) : retQ P [.tmp t, .tmp u] false (.tup [.d x, .d y]) [] .ret st = ((lk t st.s = some (.d x) ∧ x.plain = true) ∧ (lk u st.s = some (.d y) ∧ y.plain = true)) := by
  apply propext
  constructor
  . intro h
    simp only [retQ,Bool.false_eq_true,false_and,or_false,retO,resV] at h
    cases h1 : lk t st.s with
    | none => simp [h1] at h
    | some a =>
      cases h2 : lk u st.s with
      | none => simp [h1,h2] at h
      | some b =>
        simp only [h1,h2,oneOf] at h
        obtain ⟨_,⟨κ,hk,_⟩,h3⟩:=h
        simp only [AV.ren,AV.renL,AV.tup.injEq,List.cons.injEq,and_true] at hk
        have h4:=(h3.resolve_left (by simp)).1
        simp only [AV.plain,AV.plainL,and_true] at h4
        exact ⟨⟨by rw [hk.1],h4.1⟩,by rw [hk.2],h4.2⟩
  . rintro ⟨⟨h1,h2⟩,h3,h4⟩
    simp only [retQ,Bool.false_eq_true,false_and,or_false,retO,resV,h1,h3]
    exact ⟨trivial,.nil rfl,.inr ⟨⟨h2,h4,trivial⟩,trivial⟩⟩

attribute [go_sem] awp_drawn noD true_and and_true Option.map_some Option.map_none Option.bind_some Option.bind_none Option.getD_some Option.getD_none Option.isSome_some cond_true cond_false Bool.not_true Bool.not_false Bool.true_and Bool.false_and Bool.and_true Bool.and_false Bool.true_or
attribute [go_sem] Bool.false_or Bool.or_true Bool.or_false List.append_nil List.nil_append List.cons_append Bool.false_eq_true and_self or_true true_or or_false false_or and_false false_and List.length_cons List.length_nil List.map_cons List.map_nil Nat.zero_add Nat.add_zero Nat.zero_lt_succ
attribute [go_sem] List.getD_cons_zero List.getD_cons_succ Nat.le_refl List.take_zero List.take_succ_cons List.drop_zero List.drop_succ_cons List.flatMap_cons List.flatMap_nil Option.some.injEq AV.d.injEq implies_true forall_const ge_iff_le Int.toNat_natCast ne_eq not_true_eq_false
attribute [go_sem] not_false_eq_true beq_self_eq_true List.replicate_zero forall_eq' List.length_map List.length_append List.length_replicate Bool.cond_true Bool.cond_false List.length_singleton List.size_toArray List.replicate_succ List.set_cons_zero List.set_cons_succ List.length_take
attribute [go_sem] List.length_drop
def D.ints (xs : List Int) : D:=.slice (xs.map (.int .i64))
attribute [go_sem] D.plain D.plainL
theorem el_map {α : Type} {xs : List α} {f : α->D} {i : Nat} (d : α) (h : i < xs.length) : el (xs.map f) i=f (xs.getD i d):=by
 simp [el,List.getD_eq_getElem?_getD,h]
theorem el_ints {xs : List Int} {i : Nat} (h : i < xs.length) : el (xs.map (.int .i64)) i=.int .i64 (xs.getD i 0):=el_map 0 h
theorem wrap_of {n : Int} (h : -9223372036854775808<=n∧n<=9223372036854775807) : IntKind.i64.wrap n=n:=by
 rw [IntKind.wrap_i64]; omega
end Abs
