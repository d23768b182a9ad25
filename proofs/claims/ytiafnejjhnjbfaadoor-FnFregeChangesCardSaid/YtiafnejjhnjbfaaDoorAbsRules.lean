/- The rules of the operations that make or change objects. No condition. -/
import Derived.Test.YtiafnejjhnjbfaaDoorAbsDeep
set_option linter.all false
namespace Abs
open Go Go.RowKit

def newSt (d : Nat) (av : AV) (o : AO) (st : St) : St:=⟨ins d av (wipeS d st.s),ins d o (wipeO d st.o)⟩

def liveL (o : List (Nat × AO)) : List AV->Prop
 | [] => True
 | .sl i :: r => (lk i o).isSome=true∧liveL o r
 | _ :: r => liveL o r
def AV.live (o : List (Nat × AO)) : AV->Prop
 | .sl i => (lk i o).isSome=true
 | .st cs => liveL o cs
 | _ => True
theorem liveL_mem {o : List (Nat × AO)} {j : Nat} : ∀ {cs : List AV},liveL o cs->.sl j ∈ cs->(lk j o).isSome=true
 | c :: r, h, hj => by
   rcases List.mem_cons.1 hj with e | hj
   . subst e; exact h.1
   . refine liveL_mem (cs:=r) ?_ hj
     cases c<;>simp only [liveL] at h<;>first | exact h | exact h.2
theorem live_sl {o : List (Nat × AO)} {j : Nat} {av : AV} (h : av.live o) (hj : av.isSl j) : ∃ x,lk j o=some x:=by
 rcases hj with rfl | ⟨cs,rfl,hj⟩
 . exact Option.isSome_iff_exists.1 h
 . exact Option.isSome_iff_exists.1 (liveL_mem h hj)
def setEs (es : List D) : List (Nat × D)->List D
 | [] => es
 | (i,y) :: r => setEs (es.set i y) r

def nilA (P : Program) (st : St) (dst : Option Nat) (op : Op) (ty : TypeId) : Option (Prop × St) :=
 match op with
 | .assign (.const (.slice none 0 0)) => match dst, elemSl P ty with
   | some d,some e => some (0 < P.cellsOf e,newSt d (.sl d) (.arr e (P.cellsOf e) []) st)
   | _,_ => none
 | _ => none

def places (P : Program) (t : TypeId) (i : Nat) : Option (Nat × Nat) :=
 match P.underlying t with
 | some (.struct fs) => (fs[i]?).map fun f => (f.offset,P.cellsOf f.type)
 | some (.array _ e) => some (i * P.cellsOf e,P.cellsOf e)
 | _ => none
def partsU (P : Program) (t : TypeId) : Bool :=
 match P.underlying t with
 | some (.struct fs) => fs.all fun f => (P.info? f.type).isSome
 | some (.array _ e) => (P.info? e).isSome
 | _ => false

def bound (x : Option Operand) (st : St) : Option (Option Int) :=
 match x with
 | none => some none
 | some y => match ev st y with
   | some (.d (.int _ n)) => some (some n)
   | _ => none

def cutV (P : Program) (t : TypeId) (x : D) (lo hi : Option Int) : Option (Prop × D) :=
 match x with
 | .slice es => match elemSl P t with
   | some e =>
     let l:=lo.getD 0
     let h:=hi.getD es.length
     some (0<=l∧l<=h∧h<=es.length∧(∀ y ∈ es,y.cells.length=P.cellsOf e)∧0 < P.cellsOf e,.slice ((es.drop l.toNat).take (h.toNat - l.toNat)))
   | none => none
 | .str s =>
  let l:=lo.getD 0
  let h:=hi.getD s.size
  some (0<=l∧l<=h∧h<=s.size∧isStrT P t=true,.str (s.extract l.toNat h.toNat))
 | _ => none

def newsOf (st : St) (j : Nat) (x : Operand) : Option (List D) :=
 match ev st x with
 | some (.d (.slice ys)) => some ys
 | some (.sl i) => if i = j then none else match lk i st.o with
   | some (.arr _ _ ys) => some ys
   | _ => none
 | _ => none

def noRoomS (st : St) (s : Operand) : Bool :=
 match s with
 | .const (.slice none 0 0) => true
 | s => match ev st s with
   | some .e0 => true
   | some .nilS => true
   | _ => false
def emptyAV (x : Option AV) : AV :=
 match x with
 | some .e0 => .e0
 | _ => .d (.slice [])
def append0 (P : Program) (st : St) (s : Operand) (d : Nat) (e : TypeId) (ys : List D) : Option (Prop × St) :=
 match ys with
 | [] => some (0 < P.cellsOf e,st.put (some d) (emptyAV (ev st s)))
 | y :: r => some ((∀ z ∈ y :: r,z.ok (P.cellsOf e))∧0 < P.cellsOf e∧(y :: r).length<=maxLen∧(y :: r).length * P.bytesOf e<=140737488355328∧(zeroD P e).isSome=true∧(∀ z,zeroD P e=some z->z.cells.length=P.cellsOf e),
  newSt d (.sl d) (.arr e (P.cellsOf e) (y :: r)) st)
def appendD (P : Program) (st : St) (d : Nat) (e : TypeId) (j : Nat) (x : Operand) : Option (Prop × St) :=
 match deepAt st j with
 | some (some (e', k), es, st1) => match ev st1 x with
   | some (.sl i) => if i = j then none else match (lk i st1.o).bind eatOf with
     | some (c1,ys) => some (e'=e∧k=P.cellsOf e∧c1∧(∀ y ∈ ys,y.cells.length=k)∧es.length + ys.length<=maxLen∧(es.length + ys.length) * P.bytesOf e<=140737488355328∧(zeroD P e).isSome=true∧(∀ z,zeroD P e=some z->z.cells.length=k),
      ⟨ins d (.sl j) (wipeS j (st1.kill i).s),ins j (.dp (some (e,k)) (es++ys) none) (wipeO j (st1.kill i).o)⟩)
     | none => none
   | _ => none
 | _ => none
def append1 (P : Program) (st : St) (d : Nat) (e : TypeId) (j : Nat) (x : Operand) (es : List D) : Option (Prop × St) :=
 match ev st x with
 | some (.sl i) => if i = j then none else match (lk i st.o).bind eatOf with
   | some (c1,ys) => some (P.cellsOf e=1∧c1∧0 < ys.length∧(∀ y ∈ es,y.cells.length=1)∧(∀ y ∈ ys,y.cells.length=1)∧es.length + ys.length<=maxLen∧(es.length + ys.length) * P.bytesOf e<=140737488355328∧(zeroD P e).isSome=true∧(∀ z,zeroD P e=some z->z.cells.length=1),
    ⟨ins d (.sl j) (wipeS j (st.kill i).s),ins j (.d1 (es++ys)) (wipeO j (st.kill i).o)⟩)
   | none => none
 | _ => none
def storeH (P : Program) (st : St) (t : TypeId) (ad x : Operand) (j : Nat) : Option (Prop × St) :=
 match lk j st.o,ev st ad,ev st x with
 | some (.dp τ es (some (c, none))), some (.pe j' k i fo), some (.sl d) => match lk d st.o with
   | some (.d1 ys) => some (j'=j∧d ≠ j∧c.1=i∧c.2=fo∧i < es.length∧(el es i).cells.length=k∧fo < k∧P.cellsOf t=1,⟨wipeS d st.s,ins j (.dp τ (setC es i fo [.sl1 ys]) none) (wipeO d st.o)⟩)
   | _ => none
 | _,_,_ => none
def storeD (P : Program) (st : St) (t : TypeId) (ad x : Operand) (j : Nat) : Option (Prop × St) :=
 match deepAt st j with
 | some (τ, es, st1) => match ev st1 ad, ev st1 x with
   | some (.pe j' k i fo), some av => match cellsAV av with
     | some cs => match eat st1.o j cs with
       | some (c,ds,ks) => some (j'=j∧i < es.length∧(el es i).cells.length=k∧ds.length=P.cellsOf t∧0 < P.cellsOf t∧fo + ds.length<=k∧av.live st1.o∧c,
        ⟨(killL ks st1).s,ins j (.dp τ (setC es i fo ds) none) (killL ks st1).o⟩)
       | none => none
     | none => none
   | _,_ => none
 | none => storeH P st t ad x j
def borrowA (P : Program) (st : St) (d : Nat) (t : TypeId) (x : Operand) : Option (Prop × St) :=
 match ev st x with
 | some (.pe j _ _ _) => match deepAt st j with
   | some (τ, es, st1) => match ev st1 x with
     | some (.pe j' k i fo) => if j = d then none else if (elemSl P t).isSome && !aggT P t then match (el es i).cells.getD fo .nilptr with
      | .slice ys => some (j'=j∧i < es.length∧(el es i).cells.length=k∧fo < k,
       ⟨ins d (.sl d) (wipeS d st1.s),ins d (.dp none ys none) (ins j (.dp τ es (some ((i,fo),some d))) (wipeO d st1.o))⟩)
      | _ => none
       else none
     | _ => none
   | none => none
 | some (.pv j q k i fo) => match lk j st.o with
   | some (.arw _ k' es vs) => if aggT P t then none else match vs.find? (fun p => p.1 == q) with
     | some p => some (k=k'∧i < p.2∧fo < k∧(P.underlying t).isSome=true,st.put (some d) (.d ((el es i).cells.getD fo .nilptr)))
     | none => none
   | _ => none
 | _ => none
def buildD (P : Program) (st : St) (d : Nat) (t : TypeId) (len : Nat) (ps : List (Nat × Operand)) : Option (Prop × St) :=
 match len,ps with
 | 1, [(0, x)] => match elemSl P t, ev st x with
   | some e, some av => match cellsAV av with
     | some cs => match eat st.o d cs with
       | some (c,ds,ks) => some (ds.length=P.cellsOf e∧0 < P.cellsOf e∧P.cellsOf e<=16777216∧(zeroD P e).isSome=true∧(∀ z,zeroD P e=some z->z.cells.length=P.cellsOf e)∧(aggT P e=true∨P.cellsOf e=1)∧av.live st.o∧c,
        ⟨ins d (.sl d) (killL (d :: ks) st).s,ins d (.dp (some (e,P.cellsOf e)) [bif aggT P e then .agg ds else ds.getD 0 .nilptr] none) (killL (d :: ks) st).o⟩)
       | none => none
     | none => none
   | _,_ => none
 | _,_ => none
def appendM (P : Program) (st : St) (d : Nat) (s x : Operand) (t t' : TypeId) : Option (Prop × St) :=
 match elemSl P t,ev st s,ev st x,P.underlying t' with
 | some e, some (.sl j), some (.d (.int .i64 m)), some (.int .i64) => match lk j st.o, zeroD P e with
   | some (.arr e' k es), some (.int kk z) =>
     some (e'=e∧k=1∧P.cellsOf e=1∧0<=m∧es.length + m.toNat<=maxLen∧(es.length + m.toNat) * P.bytesOf e<=140737488355328,
      ⟨ins d (.sl j) (wipeS j st.s),ins j (.arr e 1 (es++List.replicate m.toNat (.int kk z))) (wipeO j st.o)⟩)
   | _,_ => none
 | _,_,_,_ => none
theorem const_noSl {st : St} {v : Value} {j : Nat} (h : ev st (.const v)=some (.sl j)) : False:=by
 have h : cv v=some (.sl j):=h
 unfold cv at h
 split at h<;>first | (cases h; done) | skip
 all_goals (obtain ⟨y,_,e⟩:=Option.map_eq_some_iff.1 h; cases e)
theorem appendM_noRoom {P : Program} {st : St} {d : Nat} {s x : Operand} {t t' : TypeId} (h : noRoomS st s=true) : appendM P st d s x t t'=none:=by
 unfold appendM
 split
 . rename_i e j m _ hs _ _
   exfalso
   unfold noRoomS at h
   split at h
   . exact absurd hs (by intro hs; exact const_noSl hs)
   . rw [hs] at h; simp at h
 . rfl
def appendF (P : Program) (st : St) (d : Nat) (e : TypeId) (j : Nat) (x : Operand) : Option (Prop × St) :=
 match ev st x with
 | some (.sl i) => if i = j then none else match lk i st.o with
   | some (.dp _ ys none) => match lk j (st.frz i ys).o with
     | some (.arr e' k es) => some (e'=e∧k=P.cellsOf e∧(∀ y ∈ ys,y.ok k)∧es.length + ys.length<=maxLen∧(es.length + ys.length) * P.bytesOf e<=140737488355328∧(zeroD P e).isSome=true∧(∀ z,zeroD P e=some z->z.cells.length=k),
      ⟨ins d (.sl j) (wipeS j (st.frz i ys).s),ins j (.arr e k (es++ys)) (wipeO j (st.frz i ys).o)⟩)
     | _ => none
   | _ => none
 | _ => none
def appendA (P : Program) (st : St) (d : Nat) (args : List Operand) (ts : List TypeId) : Option (Prop × St) :=
 match args,ts with
 | [s, x], [t, t'] =>
   if t' ≠ t then appendM P st d s x t t' else
   if noRoomS st s then match elemSl P t,ev st x with
    | some e,some (.d (.slice ys)) => append0 P st s d e ys
    | some e, some (.sl j) => match lk j st.o with
      | some (.arr _ _ ys) => if noRoomS (st.frz j ys) s then append0 P (st.frz j ys) s d e ys else none
      | _ => none
    | _,_ => none
   else
   match elemSl P t,ev st s with
   | some e, some (.sl j) => match lk j st.o with
     | some (.dp _ _ _) => appendD P st d e j x
     | some (.d1 es) => append1 P st d e j x es
     | _ => match lk j st.o, newsOf st j x with
       | some (.arr e' k es), some ys =>
         some (e'=e∧k=P.cellsOf e∧(∀ y ∈ ys,y.ok k)∧es.length + ys.length<=maxLen∧(es.length + ys.length) * P.bytesOf e<=140737488355328∧(zeroD P e).isSome=true∧(∀ z,zeroD P e=some z->z.cells.length=k),
          ⟨ins d (.sl j) (wipeS j st.s),ins j (.arr e k (es++ys)) (wipeO j st.o)⟩)
       | some (.arw e' k es vs), some ys =>
         some (e'=e∧k=P.cellsOf e∧(∀ y ∈ ys,y.ok k)∧es.length + ys.length<=maxLen∧(es.length + ys.length) * P.bytesOf e<=140737488355328∧(zeroD P e).isSome=true∧(∀ z,zeroD P e=some z->z.cells.length=k),
          ⟨ins d (.sl j) (wipeS j st.s),ins j (.arw e k (es++ys) (vs.filter fun p => p.1 != j)) (wipeO j st.o)⟩)
       | some (.arr _ _ _),none => appendF P st d e j x
       | _,_ => none
   | _,_ => none
 | _,_ => none

def storeA (P : Program) (st : St) (t : TypeId) (ad x : Operand) : Option (Prop × St) :=
 match ev st ad with
 | some (.p j off) => match lk j st.o, ev st x with
   | some (.box e cells), some av => match boxCells av with
     | some cs => some (cs.length=P.cellsOf t∧0 < P.cellsOf t∧off + cs.length<=cells.length∧av.atoms∧av.live st.o,{ st with o:=ins j (.box e (setL cells off cs)) st.o })
     | none => none
   | some (.arv e k es),some (.d (.agg cs)) => some (off=0∧k=1∧cs.length=es.length∧cs.length=P.cellsOf t∧0 < P.cellsOf t∧(∀ c ∈ cs,c.atom=true),{ st with o:=ins j (.arv e 1 cs) st.o })
   | _,_ => none
 | some (.pe j k i fo) => match lk j st.o with
  | some (.dp _ _ _) => storeD P st t ad x j
  | _ => match dOf st x with
   | some (y, st') => match lk j st'.o, ev st' ad with
     | some (.arr e k' es), some (.pe j' k2 i' fo') =>
       if aggT P t∨k=1∧(el es i).isAgg=false then
        some (j'=j∧k2=k∧i'=i∧fo'=0∧fo=0∧k=k'∧k=P.cellsOf t∧i < es.length∧y.ok k,{ st' with o:=ins j (.arr e k' (es.set i y)) st'.o })
       else
        some (j'=j∧k2=k∧i'=i∧fo'=fo∧k=k'∧y.cells.length=P.cellsOf t∧0 < P.cellsOf t∧fo + P.cellsOf t<=k∧i < es.length∧(∀ c ∈ y.cells,c.atom=true),
         { st' with o:=ins j (.arr e k' (es.set i (.agg (setL (el es i).cells fo y.cells)))) st'.o })
     | some (.arv e k' es), some (.pe j' k2 i' fo') =>
       if aggT P t∨k=1∧(el es i).isAgg=false then
        some (j'=j∧k2=k∧i'=i∧fo'=0∧fo=0∧k=k'∧k=P.cellsOf t∧i < es.length∧y.ok k,{ st' with o:=ins j (.arv e k' (es.set i y)) st'.o })
       else none
     | _,_ => none
   | none => none
 | _ => none

def cutD (P : Program) (st : St) (d : Nat) (t : TypeId) (x : Operand) (lo hi : Option Operand) : Option (Prop × St) :=
 match lo,ev st x with
 | none, some (.sl j) => match deepAt st j, elemSl P t with
   | some (τ, es, st1), some e => match bound hi st1 with
     | some (some h) => some (0<=h∧h<=es.length∧(∀ y ∈ es,y.cells.length=P.cellsOf e)∧0 < P.cellsOf e,
      ⟨ins d (.sl j) (wipeS j st1.s),ins j (.dp τ (es.take h.toNat) none) (wipeO j st1.o)⟩)
     | _ => none
   | _,_ => none
 | _,_ => none
def cutKey : Nat:=2000000000
def isSlA : Option AV->Bool
 | some (.sl _) => true
 | _ => false
def cutC (P : Program) (st : St) (d : Nat) (t : TypeId) (x : Operand) (lo hi : Option Operand) : Option (Prop × St) :=
 match ev st x,elemSl P t with
 | some (.sl j), some e2 => match lk j st.o with
   | some (.arr e k es) => match lo, hi with
     | none, some h => match ev st h with
       | some (.d (.int _ n)) => some (0<=n∧n<=es.length∧P.cellsOf e2=k,⟨ins d (.sl j) (wipeS j st.s),ins j (.arr e k (es.take n.toNat)) (wipeO j st.o)⟩)
       | _ => none
     | some l, none => match ev st l with
       | some (.d (.int _ n)) => some (0<=n∧n<=es.length∧0 < es.length∧P.cellsOf e2=k,st.put (some d) (.sf j k n.toNat))
       | _ => none
     | _,_ => none
   | _ => none
 | _,_ => none
def cutW (P : Program) (st : St) (d : Nat) (t : TypeId) (x : Operand) (lo hi : Option Operand) : Option (Prop × St) :=
 match lo,hi with
 | none, some h => match ev st x, elemSl P t with
   | some (.sl j), some e2 => match lk j st.o, ev st h with
     | some (.arw e k es vs),some (.d (.int _ n)) => if j=d then none else some (0<=n∧n<=es.length∧0 < es.length∧P.cellsOf e2=k,
      ⟨ins d (.vw j d n.toNat k) (wipeS d st.s),ins d (.view n.toNat) (ins j (.arw e k es ((d,n.toNat) :: vs.filter fun p => p.1 != d)) (wipeO d st.o))⟩)
     | _,_ => none
   | _,_ => none
 | _,_ => none
def clearA (P : Program) (st : St) (args : List Operand) (tys : List TypeId) : Option (Prop × St) :=
 match args,tys with
 | [x], [t] => match ev st x, elemSl P t with
   | some (.sf j k l), some e => match lk j st.o, zeroD P e with
     | some (.arr e' k' es),some z => some (k=1∧k'=1∧P.cellsOf e=1∧z.cells=[z]∧z.atom=true,{ st with o:=ins j (.arr e' 1 (es.take l++List.replicate (es.length - l) z)) st.o })
     | _,_ => none
   | _,_ => none
 | _,_ => none
def avParts (st : St) : List (Nat × Operand)->Option (List (Nat × AV))
 | [] => some []
 | (i, x) :: r => match ev st x, avParts st r with
   | some av,some ys => some ((i,av) :: ys)
   | _,_ => none
def fillA (place : Nat->Option (Nat × Nat)) (cells : List AV) : List (Nat × AV)->Option (List AV)
 | [] => some cells
 | (i, av) :: r => match place i, cellsAV av with
   | some (off,size),some cs => if cs.length=size∧off + cs.length<=cells.length then fillA place (setL cells off cs) r else none
   | _,_ => none
def nilZ : D->AV
 | .slice [] => .nilS
 | x => .d x
def notD : List AV->Bool
 | [] => false
 | .d _ :: r => notD r
 | _ :: _ => true
def liveP (o : List (Nat × AO)) : List (Nat × AV)->Prop
 | [] => True
 | (_,av) :: r => av.live o∧liveP o r
def buildS (P : Program) (st : St) (t : TypeId) (ps : List (Nat × Operand)) : Option (Prop × AV) :=
 match avParts st ps,zeroD P t with
 | some ys, some (.agg cs) => match fillA (places P t) (cs.map nilZ) ys with
   | some r => if notD r then some (partsU P t=true∧liveP st.o ys,.st r) else none
   | none => none
 | _,_ => none
def ownPart (st : St) (len : Nat) (ps : List (Nat × Operand)) : Bool :=
 match len,ps with
 | 1, [(0, x)] => match ev st x with
   | some (.sl _) => true
   | some (.st _) => true
   | some .e0 => true
   | _ => false
 | _,_ => false
def lv (P : Program) (st : St) (dst : Option Nat) (op : Op) (_ty : TypeId) : Option (Prop × St) :=
 match op,dst with
 | .box t x, some d => match ev st x with
   | some av => if av.has d then none else (boxO P t av).map fun r => (r.1∧av.live st.o,newSt d (.p d 0) r.2 st)
   | none => none
 | .alloc t, some d => match zeroD P t with
   | some z => (boxO P t (nz z)).map fun r => (r.1,newSt d (.p d 0) r.2 st)
   | none => none
 | .makeMap t none, some d => match mapT P t with
   | some (q,r) => some (True,newSt d (.mq d) (.mp q r []) st)
   | none => none
 | .mapUpdate t m x v, none => match ev st m, ev st x, ev st v, mapT P t with
   | some (.mq j), some (.d (.int k n)), some (.d (.int k' z)), some (q, r) => match lk j st.o with
     | some (.mp q' r' es) => some (q'=q∧r'=r∧k=q∧k'=r,{ st with o:=ins j (.mp q r (mpPut n z es)) st.o })
     | _ => none
   | _,_,_,_ => none
 | .build t ps,some d => match buildS P st t ps.toList with
  | some (c,av) => some (c,st.put (some d) av)
  | none => match dsOf st ps.toList with
   | some (ys, st') => match zeroD P t with
     | some (.agg cs) => match fillD (places P t) cs ys with
       | some r => some (partsU P t=true,st'.put (some d) (.d (.agg r)))
       | none => none
     | _ => none
   | none => none
 | .buildSlice t len ps, some d => if ownPart st len ps.toList then buildD P st d t len ps.toList else match dsOf st ps.toList with
   | some (ys, st') => match elemSl P t with
     | some e => match zeroD P e with
       | some z => some (0 < P.cellsOf e∧z.cells.length=P.cellsOf e∧len * P.cellsOf e<=16777216∧∀ y ∈ ys,y.1 < len∧y.2.cells.length=P.cellsOf e,
        newSt d (.sl d) (.arr e (P.cellsOf e) (setEs (List.replicate len z) ys)) st')
       | none => none
     | none => none
   | none => none
 | .makeSlice t l c, some d => match ev st l, ev st c with
   | some (.d (.int _ n)), some (.d (.int _ m)) => match elemSl P t with
     | some e => match zeroD P e with
       | some z => some (0 < P.cellsOf e∧z.cells.length=P.cellsOf e∧0<=n∧n<=m∧m<=4294967296∧P.bytesOf e<=65536,
        newSt d (.sl d) (.arr e (P.cellsOf e) (List.replicate n.toNat z)) st)
       | none => none
     | none => none
   | _,_ => none
 | .slice t x lo hi none, some d => if (lk cutKey st.s).isSome && isSlA (ev st x) then cutC P st d t x lo hi else match dOf st x with
   | some (y, st') => match bound lo st', bound hi st' with
     | some l,some h => (cutV P t y l h).map fun r => (r.1,st'.put (some d) (.d r.2))
     | _,_ => none
   | none => match cutW P st d t x lo hi with
     | some r => some r
     | none => cutD P st d t x lo hi
 | .load t x,some d => borrowA P st d t x
 | .store t ad x,none => storeA P st t ad x
 | .call c, some d => match c.callee with
   | .builtin .append => appendA P st d c.args.toList c.argTypes.toList
   | .builtin .clear => (clearA P st c.args.toList c.argTypes.toList).map fun r => (r.1,r.2.put (some d) (.tup []))
   | _ => none
 | .call c, none => match c.callee with
   | .builtin .clear => clearA P st c.args.toList c.argTypes.toList
   | _ => none
 | _,_ => none

section
variable {P : Program} {Z : Nat->Prop} {β : Nat->Value} {φ : Nat->Nat->Prop} {N B : Nat} {M : Nat->Prop} {w0 : World} {st : St} {a : Act} {w : World}

def Done (P : Program) (Z : Nat->Prop) (N B : Nat) (M : Nat->Prop) (w0 : World) (o : Oper) (a : Act) (w : World) (st' : St) : Prop :=
 ∃ n w',(execOp a.eval o).run P w=.ok n w'∧((∃ v,n=.value v∧Sim Z N B M w0 st' (a.put o.dst v) w')∨(n=.skip∧Sim Z N B M w0 st' (a.put o.dst Go.undef) w'))

theorem SimB.newPut (h : SimB Z β φ N B M w0 st a w) {d : Nat} {o : AO} {hd u : Value} {av : AV} {w' : World} (hN : d < N) (hg : Gb w w' none) (hnew : ∀ g,hd.ownBlock=some g->w.heap.size<=g)
 (hok : ∀ β' S',(∀ av u,av.has d=false->Rel β (free Z φ st.o) w av u->Rel β' S' w' av u)->(∀ x u,Rd (free Z φ st.o) w x u->Rd S' w' x u)->OK β' S' w' o hd (ownS hd))
 (hu : ∀ β' S',β' d=hd->Rel β' S' w' av u) : Sim Z N B M w0 (newSt d av o st) (a.put (some d) u) w':=by
 have h1:=h.new hg hnew hok
 exact ⟨_,_,h1.put (dst:=some d) (fun _ e => by cases e; exact hN) (hu _ _ upd_eq)⟩

theorem nilA_spec (h : SimB Z β φ N B M w0 st a w) {o : Oper} {c st'} (hN : ∀ d,o.dst=some d->d < N) (hq : nilA P st o.dst o.op o.type=some (c,st')) (hc : c) : Done P Z N B M w0 o a w st':=by
 obtain ⟨dst,op,type,pos,after,guard⟩:=o
 simp only at hq hN
 unfold nilA at hq
 split at hq
 . split at hq
   . rename_i d e he
     cases hq
     refine ⟨.value (.slice none 0 0),w,by simp [execOp,Act.eval],.inl ⟨_,rfl,?_⟩⟩
     refine h.newPut (hd:=.slice none 0 0) (hN _ rfl) (Gb.refl _ _) (by simp [Value.ownBlock]) (fun β' S' _ _ => ?_) (fun β' S' e => by rw [← e]; exact .sl _)
     exact .arr rfl [] hc (by simp) (World.ownsRow_nil _ _ _ _) (by simp [flat])
   . cases hq
 . cases hq

theorem sl_slice (h : SimB Z β φ N B M w0 st a w) {j o} (hj : lk j st.o=some o) : ∃ b n c,β j=.slice b n c:=(h.objs j o hj).is_slice

theorem box_done (h : SimB Z β φ N B M w0 st a w) {o : Oper} {d t av c ob v} (hd : o.dst=some d) (hN : d < N) (hv : Rel β (free Z φ st.o) w av v) (hsl : ∀ j,av.isSl j->∃ a n c,β j=.slice a n c)
 (hh : av.has d=false) (hq : boxO P t av=some (c,ob)) (hc : c) (hrun : (execOp a.eval o).run P w=.ok (.value (.pointer (some ⟨w.heap.size,0,none⟩))) (w.alloc (.cells v.cells t))) :
 Done P Z N B M w0 o a w (newSt d (.p d 0) ob st):=by
 refine ⟨_,_,hrun,.inl ⟨_,rfl,?_⟩⟩
 rw [hd]
 refine h.newPut (hd:=.slice (some ⟨w.heap.size,0,none⟩) 1 1) hN (grownBy_alloc _ _) (by simp [Value.ownBlock]) (fun β' S' h1 h2 => boxO_ok h hq hc hv hsl hh h1 h2) (fun β' S' e => .p e)

theorem partsU_struct {t fs} (h : partsU P t=true) (hu : P.underlying t=some (.struct fs)) (w : World) :
 (fs.mapM (m:=Sem) fun f => do pure (f.offset,← Go.sizeOf f.type)).run P w=.ok (fs.map fun f => (f.offset,P.cellsOf f.type)) w:=by
 unfold partsU at h
 rw [hu] at h
 simp only at h
 obtain ⟨fs⟩:=fs
 simp only [List.all_toArray,List.all_eq_true] at h
 rw [List.mapM_toArray]
 have key : ∀ l : List Field,(∀ x ∈ l,(P.info? x.type).isSome=true) ->
  (l.mapM (m:=Sem) fun f => do pure (f.offset,← Go.sizeOf f.type)).run P w=.ok (l.map fun f => (f.offset,P.cellsOf f.type)) w:=by
  intro l
  induction l with
  | nil => intro _; simp
  | cons f r ih =>
    intro hl
    have h1:=hl f (by simp)
    obtain ⟨i,hi⟩:=Option.isSome_iff_exists.1 h1
    have h2:=ih fun x hx => hl x (by simp [hx])
    have hs : (Go.sizeOf f.type).run P w=.ok (P.cellsOf f.type) w:=by simp [Go.sizeOf,typeInfo,hi,Program.cellsOf]
    simp only [List.mapM_cons,Sem.run_bind,hs,Result.andThen_ok,Sem.run_pure,h2,List.map_cons]
 simp [-bind_pure_comp,key fs h]

theorem run_build' {t cs r} {ys : List (Nat × D)} {us : List (Nat × Value)} {S} (hz : zeroD P t=some (.agg cs)) (hq : fillD (places P t) cs ys=some r) (hp : partsU P t=true)
 (he : ys.map (·.1)=us.map (·.1)) (hr : ∀ i,i < ys.length->Rd S w (ys.getD i (0,.nilptr)).2 (us.getD i (0,Go.undef)).2) :
 ∃ v,(Instr.build t us.toArray).run P w=.ok v w∧Rd S w (.agg r) v:=by
 obtain ⟨i,z,hi,hz',hzr⟩:=zeroD_spec hz
 obtain ⟨vs,rfl,hl,hrl⟩:=rd_agg (hzr S w)
 obtain ⟨rs,h1,h2⟩:=fill_spec (cs:=vs.toArray) hq he hr ⟨by simpa using hl,by simpa using hrl⟩
 refine ⟨.agg rs,?_,by have:=Rd.agg h2.1 h2.2; simpa using this⟩
 cases hu : P.underlying t with
 | none => simp [partsU,hu] at hp
 | some d =>
   cases d<;>simp only [partsU,hu,reduceCtorEq] at hp
   case struct fs =>
    have hm:=partsU_struct (P:=P) (t:=t) (by simpa [partsU,hu] using hp) hu w
    have hpl : places P t=fun i => ((fs.map fun f => (f.offset,P.cellsOf f.type))[i]?):=by
     funext i; simp [places,hu]
    rw [hpl] at h1
    have hzv : (zeroValue t).run P w=.ok (.agg vs.toArray) w:=by simp [zeroValue,typeInfo,hi,hz']
    simp only [Instr.build,Sem.run_bind,hzv,Result.andThen_ok,run_underlying hu,hm,Value.cells,h1,Sem.run_pure]
   case array n e =>
    obtain ⟨ie,hie⟩:=Option.isSome_iff_exists.1 hp
    have hpl : places P t=fun i => some (i * P.cellsOf e,P.cellsOf e):=by
     funext i; simp [places,hu]
    rw [hpl] at h1
    have hce : P.cellsOf e=ie.size:=by simp [Program.cellsOf,hie]
    rw [hce] at h1
    simp [Instr.build,zeroValue,typeInfo,hi,hz',run_underlying hu,Go.sizeOf,hie,Value.cells,h1]

theorem getD_map_pair (ps : List (Nat × Operand)) (ρ : Operand->Value) (i : Nat) (hi : i < ps.length) :
 ((ps.map fun p => (p.1,ρ p.2)).getD i (0,Go.undef)).2=ρ (ps.getD i (0,.global 0)).2:=by
 simp [List.getD_eq_getElem?_getD,hi]

theorem setEs_fill {k n : Nat} : ∀ {ys : List (Nat × D)} {es : List D},es.length=n->(∀ e ∈ es,e.cells.length=k)->(∀ y ∈ ys,y.1 < n∧y.2.cells.length=k) ->
 (setEs es ys).length=n∧(∀ e ∈ setEs es ys,e.cells.length=k)∧fillD (fun i => some (i * k,k)) (flat es) ys=some (flat (setEs es ys))
 | [],es,hn,hk,_ => ⟨hn,hk,rfl⟩
 | (i, y) :: r, es, hn, hk, hy => by
   obtain ⟨h1,h2⟩:=hy (i,y) (by simp)
   simp only at h1 h2
   obtain ⟨h3,h4,h5⟩:=setEs_fill (k:=k) (n:=n) (ys:=r) (es:=es.set i y) (by simpa using hn) (fun e he => by
    rcases List.mem_or_eq_of_mem_set he with h | h
    . exact hk e h
    . rw [h]; exact h2) fun z hz => hy z (by simp [hz])
   refine ⟨h3,h4,?_⟩
   have hle : i * k + k<=es.length * k:=by
    have : (i + 1) * k<=es.length * k:=Nat.mul_le_mul_right k (by omega)
    rwa [Nat.add_mul,Nat.one_mul] at this
   simp only [fillD]
   rw [if_pos ⟨h2,by rw [h2,flat_length hk]; exact hle⟩,← flat_set hk (by omega) h2]
   exact h5

theorem Done.value {o : Oper} {a : Act} {w w' : World} {st' : St} {v} (h1 : (execOp a.eval o).run P w=.ok (.value v) w') (h2 : Sim Z N B M w0 st' (a.put o.dst v) w') : Done P Z N B M w0 o a w st' :=
 ⟨_,_,h1,.inl ⟨_,rfl,h2⟩⟩
end
end Abs
