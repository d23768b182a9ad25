/- The operations that change no object: what each yields, abstractly, and that the machine yields just that. No condition. -/
import Derived.Test.YtiafnejjhnjbfaaDoorAbsMap
set_option linter.all false
namespace Abs
open Go Go.RowKit

def aggT (P : Program) (t : TypeId) : Bool :=
 match P.underlying t with
 | some (.struct _) | some (.array _ _) => true
 | _ => false
def fieldOf (P : Program) (t : TypeId) (f : Nat) : Option (Nat × TypeId) :=
 match P.underlying t with
 | some (.struct fs) => (fs[f]?).map fun x => (x.offset,x.type)
 | _ => none
def elemSl (P : Program) (t : TypeId) : Option TypeId :=
 match P.underlying t with
 | some (.slice e) => some e
 | _ => none
def elemAr (P : Program) (t : TypeId) : Option (Nat × TypeId) :=
 match P.underlying t with
 | some (.array n e) => some (n,e)
 | _ => none
def isBoolT (P : Program) (t : TypeId) : Bool :=
 match P.underlying t with
 | some .bool => true
 | _ => false
def isPtrT (P : Program) (t : TypeId) : Bool :=
 match P.underlying t with
 | some (.pointer e) => decide (e=P.pointee t)
 | _ => false
def isStrT (P : Program) (t : TypeId) : Bool :=
 match P.underlying t with
 | some .string => true
 | _ => false
def zeroOf (P : Program) (t : TypeId) : Option Value:=(P.info? t).bind (·.zero)

theorem elemSl_spec {P : Program} {t e} (h : elemSl P t=some e) : P.underlying t=some (.slice e):=by
 unfold elemSl at h; split at h<;>simp_all
theorem elemAr_spec {P : Program} {t n e} (h : elemAr P t=some (n,e)) : P.underlying t=some (.array n e):=by
 unfold elemAr at h; split at h<;>simp_all
theorem isBoolT_spec {P : Program} {t} (h : isBoolT P t=true) : P.underlying t=some .bool:=by
 unfold isBoolT at h; split at h<;>simp_all
theorem isPtrT_spec {P : Program} {t} (h : isPtrT P t=true) : P.underlying t=some (.pointer (P.pointee t)):=by
 unfold isPtrT at h; split at h
 . rename_i e he; rw [he,of_decide_eq_true h]
 . cases h
theorem isStrT_spec {P : Program} {t} (h : isStrT P t=true) : P.underlying t=some .string:=by
 unfold isStrT at h; split at h<;>simp_all
theorem fieldOf_spec {P : Program} {t f o ft} (h : fieldOf P t f=some (o,ft)) : ∃ fs x,P.underlying t=some (.struct fs)∧fs[f]? = some x∧x.offset=o∧x.type=ft:=by
 unfold fieldOf at h
 split at h
 . rename_i fs hu
   cases hx : fs[f]? with
   | none => simp [hx] at h
   | some x => simp [hx] at h; exact ⟨fs,x,hu,hx,h.1,h.2⟩
 . cases h

theorem info_of_cells {P : Program} {t} (h : 0 < P.cellsOf t) : ∃ i,P.info? t=some i∧i.size=P.cellsOf t:=by
 unfold Program.cellsOf at *
 cases hi : P.info? t with
 | none => simp [hi] at h
 | some i => exact ⟨i,rfl,by simp⟩
theorem info_of_und {P : Program} {t d} (h : P.underlying t=some d) : ∃ i,P.info? t=some i∧i.size=P.cellsOf t:=by
 unfold Program.cellsOf
 cases hi : P.info? t with
 | none => simp [Program.underlying,hi] at h
 | some i => exact ⟨i,rfl,by simp⟩
theorem run_sizeOf' {P : Program} {t d} (h : P.underlying t=some d) (w : World) : (Go.sizeOf t).run P w=.ok (P.cellsOf t) w:=by
 obtain ⟨i,hi,hs⟩:=info_of_und h
 simp [Go.sizeOf,typeInfo,hi,hs]
theorem run_sizeOf_pos {P : Program} {t} (h : 0 < P.cellsOf t) (w : World) : (Go.sizeOf t).run P w=.ok (P.cellsOf t) w:=by
 obtain ⟨i,hi,hs⟩:=info_of_cells h
 simp [Go.sizeOf,typeInfo,hi,hs]
theorem run_isAgg {P : Program} {t d} (h : P.underlying t=some d) (w : World) : (isAgg t).run P w=.ok (aggT P t) w:=by
 simp only [isAgg,Sem.run_bind,run_underlying h,Result.andThen_ok,aggT,h]
 cases d<;>simp

def cD : Value->Option D
 | .int k n => some (.int k n)
 | .bool b => some (.bool b)
 | .string s => some (.str s)
 | .pointer none => some .nilptr
 | .nilFunc => some .nilfn
 | .slice none 0 0 => some (.slice [])
 | .map none => some .nilmap
 | _ => none
def cDs : List Value->Option (List D)
 | [] => some []
 | v :: r => match cD v, cDs r with
   | some x,some xs => some (x :: xs)
   | _,_ => none
def cv (v : Value) : Option AV :=
 match v with
 | .agg cs => (cDs cs.toList).map fun xs => .d (.agg xs)
 | v => (cD v).map .d

theorem cD_spec {S w v x} (h : cD v=some x) : Rd S w x v:=by
 unfold cD at h
 split at h<;>first | (cases h; constructor; done) | cases h
theorem cDs_spec {S w} : ∀ {vs xs},cDs vs=some xs->vs.length=xs.length∧∀ i,i < xs.length->Rd S w (xs.getD i .nilptr) (vs.getD i Go.undef)
 | [],_,h => by simp [cDs] at h; subst h; simp
 | v :: r, xs, h => by
   simp only [cDs] at h
   split at h
   . rename_i x ys h1 h2
     cases h
     obtain ⟨h3,h4⟩:=cDs_spec (S:=S) (w:=w) h2
     refine ⟨by simp [h3],fun i hi => ?_⟩
     cases i with
     | zero => simpa using cD_spec h1
     | succ i => simpa using h4 i (by simpa using hi)
   . cases h
theorem cv_spec {β S w v av} (h : cv v=some av) : Rel β S w av v:=by
 unfold cv at h
 split at h
 . rename_i cs
   cases hc : cDs cs.toList with
   | none => simp [hc] at h
   | some xs =>
     simp [hc] at h; subst h
     obtain ⟨h1,h2⟩:=cDs_spec (S:=S) (w:=w) hc
     have:=Rd.agg (S:=S) (w:=w) h1 h2
     exact .d (by simpa using this)
 . obtain ⟨x,hc,rfl⟩:=Option.map_eq_some_iff.1 h
   exact .d (cD_spec hc)

def ev (st : St) : Operand->Option AV
 | .tmp t => lk t st.s
 | .const v => cv v
 | .func f => some (.fn (.func f) [])
 | .global g => (globD g).map .d

theorem ev_glob_d {st g v} (h : ev st (.global g)=some v) : ∃ x,v=.d x:=by
 obtain ⟨x,_,h⟩:=Option.map_eq_some_iff.1 (show (globD g).map AV.d=some v from h)
 exact ⟨x,h.symm⟩
section
variable {P : Program} {Z : Nat->Prop} {β : Nat->Value} {φ : Nat->Nat->Prop} {N B : Nat} {M : Nat->Prop} {w0 : World} {st : St} {a : Act} {w : World}

theorem ev_spec (h : SimB Z β φ N B M w0 st a w) {x av} (hx : ev st x=some av) : Rel β (free Z φ st.o) w av (a.eval x):=by
 cases x with
 | tmp t => exact h.slots t av hx
 | const v => exact cv_spec hx
 | func f =>
   cases hx
   have:=Rel.fn (β:=β) (S:=free Z φ st.o) (w:=w) (f:=.func f) (caps:=[]) (us:=[]) rfl (by simp)
   simpa [Act.eval] using this
 | global g =>
   obtain ⟨x,hy,rfl⟩:=Option.map_eq_some_iff.1 (show (globD g).map AV.d=some av from hx)
   exact .d (globD_spec h.gs hy)

theorem ev_d (h : SimB Z β φ N B M w0 st a w) {x y} (hx : ev st x=some (.d y)) : Rd (free Z φ st.o) w y (a.eval x):=by
 cases ev_spec h hx; assumption
theorem ev_int (h : SimB Z β φ N B M w0 st a w) {x k n} (hx : ev st x=some (.d (.int k n))) : a.eval x=.int k n:=by
 have:=ev_d h hx; generalize a.eval x=v at *; cases this; rfl
theorem ev_bool (h : SimB Z β φ N B M w0 st a w) {x b} (hx : ev st x=some (.d (.bool b))) : a.eval x=.bool b:=by
 have:=ev_d h hx; generalize a.eval x=v at *; cases this; rfl
theorem ev_str (h : SimB Z β φ N B M w0 st a w) {x s} (hx : ev st x=some (.d (.str s))) : a.eval x=.string s:=by
 have:=ev_d h hx; generalize a.eval x=v at *; cases this; rfl
theorem ev_sl (h : SimB Z β φ N B M w0 st a w) {x j} (hx : ev st x=some (.sl j)) : a.eval x=β j:=by
 have:=ev_spec h hx; generalize a.eval x=v at *; cases this; rfl
end

def bitV (op : BinOp) (k : IntKind) (x y : Int) : Int :=
 let a:=BitVec.ofInt k.bits x
 let b:=BitVec.ofInt k.bits y
 match op with
 | .and => k.wrap (a &&& b).toNat
 | .or => k.wrap (a ||| b).toNat
 | .xor => k.wrap (a ^^^ b).toNat
 | _ => k.wrap (a &&& ~~~b).toNat

def intB (op : BinOp) (k : IntKind) (x : Int) (k' : IntKind) (y : Int) : Option (Prop × D) :=
 match op with
 | .shl => some (0<=y,.int k (k.wrap (x * 2 ^ min y.toNat k.bits)))
 | .shr => some (0<=y,.int k (x.fdiv (2 ^ min y.toNat k.bits)))
 | .add => some (k=k',.int k (k.wrap (x + y)))
 | .sub => some (k=k',.int k (k.wrap (x - y)))
 | .mul => some (k=k',.int k (k.wrap (x * y)))
 | .quo => some (k=k'∧y ≠ 0,.int k (k.wrap (x.tdiv y)))
 | .rem => some (k=k'∧y ≠ 0,.int k (x.tmod y))
 | .and => some (k=k',.int k (bitV .and k x y))
 | .or => some (k=k',.int k (bitV .or k x y))
 | .xor => some (k=k',.int k (bitV .xor k x y))
 | .andNot => some (k=k',.int k (bitV .andNot k x y))
 | .eql => some (k=k',.bool (x == y))
 | .neq => some (k=k',.bool (x != y))
 | .lss => some (k=k',.bool (decide (x < y)))
 | .leq => some (k=k',.bool (decide (x<=y)))
 | .gtr => some (k=k',.bool (decide (y < x)))
 | .geq => some (k=k',.bool (decide (y<=x)))

theorem intB_spec {P : Program} {op k x k' y c z} (h : intB op k x k' y=some (c,z)) (hc : c) (t : TypeId) (w : World) :
 ∃ v,(binOp op t (.int k x) (.int k' y)).run P w=.ok v w∧∀ S,Rd S w z v:=by
 cases op<;>simp only [intB,Option.some.injEq,Prod.mk.injEq] at h<;>obtain ⟨rfl,rfl⟩:=h
 case shl => exact ⟨_,by simp [binOp,Op.shift,show ¬ y < 0 by omega],fun S => .int _ _⟩
 case shr => exact ⟨_,by simp [binOp,Op.shift,show ¬ y < 0 by omega],fun S => .int _ _⟩
 case quo => obtain ⟨rfl,hy⟩:=hc; exact ⟨.int k _,by rw [binOp_quo,Op.intDiv,if_neg hy]; rfl,fun S => .int _ _⟩
 case rem => obtain ⟨rfl,hy⟩:=hc; exact ⟨.int k _,by rw [binOp_rem,Op.intDiv,if_neg hy]; rfl,fun S => .int _ _⟩
 all_goals
  subst hc
  first
  | exact ⟨.int k _, by first | rw [binOp_add] | rw [binOp_sub] | rw [binOp_mul] | rw [binOp_and] | rw [binOp_or] | rw [binOp_xor] | rw [binOp_andNot]
                        rfl,fun S => .int _ _⟩
  | exact ⟨.bool _, by first | rw [binOp_eql] | rw [binOp_neq] | rw [binOp_lss] | rw [binOp_leq] | rw [binOp_gtr] | rw [binOp_geq]
                       rfl,fun S => .bool _⟩

def strB (op : BinOp) (x y : ByteArray) : Option (Prop × D) :=
 match op with
 | .add => some (x.size + y.size<=9223372036854775807,.str (x++y))
 | .eql => some (True,.bool (x.toList == y.toList))
 | .neq => some (True,.bool (!(x.toList == y.toList)))
 | .lss => some (True,.bool (Op.bytesLess x.toList y.toList))
 | .leq => some (True,.bool (Op.bytesLess x.toList y.toList || x.toList == y.toList))
 | .gtr => some (True,.bool !(Op.bytesLess x.toList y.toList || x.toList == y.toList))
 | .geq => some (True,.bool !(Op.bytesLess x.toList y.toList))
 | _ => none

theorem strB_spec {P : Program} {op x y c z} (h : strB op x y=some (c,z)) (hc : c) (t : TypeId) (w : World) :
 ∃ v,(binOp op t (.string x) (.string y)).run P w=.ok v w∧∀ S,Rd S w z v:=by
 cases op<;>simp only [strB,Option.some.injEq,Prod.mk.injEq,reduceCtorEq] at h<;>obtain ⟨rfl,rfl⟩:=h
 case add =>
  refine ⟨.string (x++y),?_,fun S => .str _⟩
  have : ¬ (((x.size + y.size : Nat) : Int) > IntKind.i64.max):=by
   have : IntKind.i64.max=9223372036854775807:=by decide
   rw [this]; omega
  simp only [binOp,Op.stringOp]
  rw [if_neg this]; rfl
 all_goals exact ⟨.bool _,by simp only [binOp,Op.stringOp]; rfl,fun S => .bool _⟩

theorem eqGuard_plain {P : Program} {op t x y u v} (w : World) (h : (∀ cs,u ≠ .agg cs)∧u ≠ .nilIface) : (eqGuard op t x y u v).run P w=.ok () w:=by
 cases u<;>first
  | (cases op<;>rfl)
  | exact absurd rfl h.2
  | exact absurd rfl (h.1 _)

def el (es : List D) (i : Nat) : D:=es.getD i .nilptr
def partD (P : Program) (cs : List D) (off : Nat) (t : TypeId) : D:=if aggT P t then .agg ((cs.drop off).take (P.cellsOf t)) else cs.getD off .nilptr
def partOK (P : Program) (cs : List D) (off : Nat) (t : TypeId) : Prop :=
 off + P.cellsOf t<=cs.length∧0 < P.cellsOf t∧(aggT P t=true∨(P.cellsOf t=1∧(cs.getD off .nilptr).isAgg=false))∧(P.underlying t).isSome=true
def D.fits (P : Program) (x : D) (t : TypeId) : Prop:=x.isAgg=aggT P t∧x.cells.length=P.cellsOf t

def allD : List AV->Option (List D)
 | [] => some []
 | .d x :: r => match allD r with
   | some xs => some (x :: xs)
   | none => none
 | .nilS :: r => match allD r with
   | some xs => some (.slice [] :: xs)
   | none => none
 | _ :: _ => none

def evA (st : St) (x : Operand) : Option AV :=
 match x with
 | .const (.slice none 0 0) => some .nilS
 | x => ev st x
def evs (st : St) : List Operand->Option (List AV)
 | [] => some []
 | x :: r => match evA st x, evs st r with
   | some y,some ys => some (y :: ys)
   | _,_ => none

def lenV (o : List (Nat × AO)) : AV->Option Int
 | .nilS => some 0
 | .d (.slice es) => some es.length
 | .sl j => match lk j o with
   | some (.arr _ _ es) => some es.length
   | some (.dp _ es _) => some es.length
   | some (.arw _ _ es _) => some es.length
   | _ => none
 | .vw _ _ n _ => some n
 | .sf j _ l => match lk j o with
   | some (.arr _ _ es) => some ((es.length - l : Nat) : Int)
   | _ => none
 | _ => none

def partA (P : Program) (cs : List AV) (off : Nat) (t : TypeId) : AV:=if aggT P t then .st ((cs.drop off).take (P.cellsOf t)) else cs.getD off .undef
def partAOK (P : Program) (cs : List AV) (off : Nat) (t : TypeId) : Prop:=off + P.cellsOf t<=cs.length∧0 < P.cellsOf t∧(P.underlying t).isSome=true

def loadV (P : Program) (o : List (Nat × AO)) (t : TypeId) : AV->Option (Prop × AV)
 | .d (.ptr y) => some (y.fits P t,.d y)
 | .p j off => match lk j o with
   | some (.box _ cells) =>
     if aggT P t then
      match allD ((cells.drop off).take (P.cellsOf t)) with
      | some ds => some (off + P.cellsOf t<=cells.length∧(P.underlying t).isSome=true,.d (.agg ds))
      | none => some (off + P.cellsOf t<=cells.length∧(P.underlying t).isSome=true,.st ((cells.drop off).take (P.cellsOf t)))
     else some (off < cells.length∧(P.underlying t).isSome=true,cells.getD off .undef)
   | some (.arv _ k es) => if aggT P t then some (off=0∧(flat es).length=P.cellsOf t∧(P.underlying t).isSome=true,.d (.agg (flat es))) else none
   | _ => none
 | .pe j k i fo => match lk j o with
   | some (.arr _ k' es) | some (.arv _ k' es) | some (.arw _ k' es _) =>
     if aggT P t then
      if P.cellsOf t=k then some (k=k'∧i < es.length∧fo=0∧(el es i).fits P t∧(P.underlying t).isSome=true,.d (el es i))
      else some (k=k'∧i < es.length∧fo + P.cellsOf t<=(el es i).cells.length∧(P.underlying t).isSome=true,.d (.agg (((el es i).cells.drop fo).take (P.cellsOf t))))
     else some (k=k'∧i < es.length∧fo < (el es i).cells.length∧(P.underlying t).isSome=true,.d ((el es i).cells.getD fo .nilptr))
   | some (.dp _ es none) =>
     if aggT P t then none else if (elemSl P t).isSome then none
     else some (i < es.length∧(el es i).cells.length=k∧fo < (el es i).cells.length∧((el es i).cells.getD fo .nilptr).bare=true∧(P.underlying t).isSome=true,.d ((el es i).cells.getD fo .nilptr))
   | some (.dp _ es (some (c, some d))) =>
     -- a part that is lent for long (its key is a great one) is met again
     if aggT P t then none else if d < 900000000 then none
     else some (c.1=i∧c.2=fo∧(el es i).cells.length=k∧(P.underlying t).isSome=true,.sl d)
   | _ => none
 | _ => none

def indexV (P : Program) (o : List (Nat × AO)) (t : TypeId) (x : AV) (i : Int) : Option (Prop × AV) :=
 match elemSl P t with
 | some e => match x with
   | .d (.slice es) => some (0<=i∧i < es.length∧(el es i.toNat).cells.length=P.cellsOf e∧0 < P.cellsOf e,.d (.ptr (el es i.toNat)))
   | .sl j => match lk j o with
     | some (.arr _ k es) | some (.arw _ k es _) => some (0<=i∧i < es.length∧P.cellsOf e=k,.pe j k i.toNat 0)
     | some (.dp _ es _) => some (0<=i∧i < es.length∧(el es i.toNat).cells.length=P.cellsOf e∧0 < P.cellsOf e,.pe j (P.cellsOf e) i.toNat 0)
     | _ => none
   | .vw j q n k => some (0<=i∧i < n∧P.cellsOf e=k∧0 < k,.pv j q k i.toNat 0)
   | .sf j k' l => match lk j o with
     | some (.arr _ k es) => some (0<=i∧i.toNat + l < es.length∧P.cellsOf e=k∧k'=k,.pe j k (l + i.toNat) 0)
     | _ => none
   | _ => none
 | none => match elemAr P t with
   | some (n, e) => match x with
     | .p j 0 => match lk j o with
       | some (.arv _ k es) => some (0<=i∧i < n∧P.cellsOf e=k,.pe j k i.toNat 0)
       | _ => none
     | .pe j k q fo => some (0<=i∧i < n∧0 < P.cellsOf e,.pe j k q (fo + i.toNat * P.cellsOf e))
     | .d (.ptr (.agg cs)) => some (0<=i∧i < n∧partOK P cs (i.toNat * P.cellsOf e) e,.d (.ptr (partD P cs (i.toNat * P.cellsOf e) e)))
     | _ => none
   | none => none

def fieldAV (P : Program) (t : TypeId) (f : Nat) : AV->Option (Prop × AV)
 | .d (.ptr (.agg cs)) => match fieldOf P t f with
   | some (o,ft) => some (partOK P cs o ft,.d (.ptr (partD P cs o ft)))
   | none => none
 | .p j off => match fieldOf P t f with
   | some (o,ft) => some (0 < P.cellsOf ft,.p j (off + o))
   | none => none
 | .pe j k i fo => match fieldOf P t f with
   | some (o,ft) => some (0 < P.cellsOf ft,.pe j k i (fo + o))
   | none => none
 | _ => none

def builtinV (P : Program) (st : St) (b : Builtin) (args : List Operand) (ts : List TypeId) : Option (Prop × AV) :=
 match b,args,ts with
 | .len, [x], [t] => match ev st x with
   | some (.d (.str s)) => some (isStrT P t=true,.d (.int .i64 s.size))
   | some av => match lenV st.o av with
     | some n => some ((elemSl P t).isSome=true,.d (.int .i64 n))
     | none => none
   | none => none
 | .max, [x, y], _ => match ev st x, ev st y with
   | some (.d (.int k n)),some (.d (.int _ m)) => some (True,.d (.int k (if m > n then m else n)))
   | _,_ => none
 | .min, [x, y], _ => match ev st x, ev st y with
   | some (.d (.int k n)),some (.d (.int _ m)) => some (True,.d (.int k (if m < n then m else n)))
   | _,_ => none
 | _,_,_ => none

def e0V (P : Program) (st : St) (t : TypeId) (x : Operand) (lo hi mx : Option Operand) : Option (Prop × AV) :=
 match mx,hi,lo with
 | some m, some h, none => match ev st x, ev st h, ev st m with
   | some (.d (.slice _)), some (.d (.int _ 0)), some (.d (.int _ 0)) => match elemSl P t with
     | some e => some (0 < P.cellsOf e,.e0)
     | none => none
   | _,_,_ => none
 | _,_,_ => none

def isIntT (P : Program) (t : TypeId) : Bool:=match P.underlying t with
 | some (.int _) => true
 | _ => false
def eqShape (P : Program) (t : TypeId) : Option (List (Nat × TypeId)) :=
 match P.underlying t with
 | some (.struct fs) => if P.eqGuardType P.depth t = false ∧ P.stoodInHeld t = false ∧ ∀ f ∈ fs.toList, f.name ≠ "_" ∧ (isIntT P f.type || isStrT P f.type) = true then some (fs.toList.map fun f => (f.offset, f.type)) else none
 | some (.array n e) => if n=2∧P.eqGuardType P.depth t=false∧isIntT P e=true∧P.cellsOf e=1 then some [(0,e),(1,e)] else none
 | _ => none
def eqLok (P : Program) (cs ds : List D) : List (Nat × TypeId)->Prop
 | [] => True
 | (o,t) :: r => partOK P cs o t∧partOK P ds o t∧aggT P t=false∧(match cs.getD o .nilptr,ds.getD o .nilptr with | .int k _,.int k' _ => k=k'∧isIntT P t=true | .str _,.str _ => isStrT P t=true | _,_ => False)∧eqLok P cs ds r
def eqL (cs ds : List D) : List (Nat × TypeId)->Bool
 | [] => true
 | (o,_) :: r => (match cs.getD o .nilptr,ds.getD o .nilptr with | .int _ n,.int _ m => n == m | .str a,.str b => a.toList == b.toList | _,_ => false) && eqL cs ds r

def qv (P : Program) (st : St) (op : Op) : Option (Prop × AV) :=
 match op with
 | .move x | .assign x => (ev st x).map fun y => (True,y)
 | .pick c x y => match ev st c with
   | some (.d (.bool b)) => some (True,bif b then (ev st x).getD .undef else (ev st y).getD .undef)
   | _ => none
 | .load t x => ((ev st x).bind (loadV P st.o t)).map fun r => ((P.underlying t).isSome=true∧r.1,r.2)
 | .nilCheck x => match ev st x with
   | some (.d (.ptr y)) => some (True,.d (.ptr y))
   | some (.p j o) => some (True,.p j o)
   | some (.pe j k i o) => some (True,.pe j k i o)
   | _ => none
 | .binOp op t x y _ => match ev st x, ev st y with
   | some (.d (.int k n)),some (.d (.int k' m)) => (intB op k n k' m).map fun r => (r.1,.d r.2)
   | some (.d (.str s)),some (.d (.str u)) => (strB op s u).map fun r => (r.1,.d r.2)
   | some (.d (.bool s)), some (.d (.bool u)) => match op with
     | .eql => some (isBoolT P t=true,.d (.bool (s == u)))
     | .neq => some (isBoolT P t=true,.d (.bool (!(s == u))))
     | _ => none
   | some (.d (.agg cs)), some (.d (.agg ds)) => match op, eqShape P t with
     | .eql,some l => some (eqLok P cs ds l,.d (.bool (eqL cs ds l)))
     | .neq,some l => some (eqLok P cs ds l,.d (.bool (!eqL cs ds l)))
     | _,_ => none
   | some (.d .nilptr), some (.d .nilptr) => match op with
     | .eql => some (isPtrT P t=true,.d (.bool true))
     | .neq => some (isPtrT P t=true,.d (.bool false))
     | _ => none
   | some (.d (.ptr _)), some (.d .nilptr) => match op with
     | .eql => some (isPtrT P t=true,.d (.bool false))
     | .neq => some (isPtrT P t=true,.d (.bool true))
     | _ => none
   | _,_ => none
 | .unOp op _ x => match ev st x, op with
   | some (.d (.bool b)),.not => some (True,.d (.bool !b))
   | some (.d (.int k n)),.neg => some (True,.d (.int k (k.wrap (0 - n))))
   | some (.d (.int k n)),.xor => some (True,.d (.int k (bitV .xor k (if k.signed then -1 else k.max) n)))
   | _,_ => none
 | .convert s t x => match ev st x with
   | some (.d (.int k n)) => match P.underlying t with
     | some (.int k') => some ((P.underlying s).isSome=true,.d (.int k' (k'.wrap n)))
     | some .string => some ((P.underlying s).isSome=true,.d (.str (Utf8.encode n)))
     | _ => none
   | _ => none
 | .fieldAddr t x f => (ev st x).bind (fieldAV P t f)
 | .field t x f => match ev st x with
   | some (.d (.agg cs)) => match fieldOf P t f with
     | some (o,ft) => some (partOK P cs o ft,.d (partD P cs o ft))
     | none => none
   | some (.st cs) => match fieldOf P t f with
     | some (o,ft) => some (partAOK P cs o ft,partA P cs o ft)
     | none => none
   | _ => none
 | .indexAddr t x i => match ev st x, ev st i with
   | some av,some (.d (.int _ n)) => indexV P st.o t av n
   | _,_ => none
 | .index t x i => match ev st x, ev st i with
   | some (.d (.agg cs)), some (.d (.int _ n)) => match elemAr P t with
     | some (len,e) => some (0<=n∧n < len∧partOK P cs (n.toNat * P.cellsOf e) e,.d (partD P cs (n.toNat * P.cellsOf e) e))
     | none => none
   | some (.d (.str s)),some (.d (.int _ n)) => some (0<=n∧n < s.size∧isStrT P t=true,.d (.int .u8 (s.data.toList.getD n.toNat 0).toNat))
   | _,_ => none
 | .extract x i => match ev st x with
   | some (.tup xs) => some (i < xs.length,xs.getD i .undef)
   | some (.d (.tup xs)) => some (i < xs.length,.d (xs.getD i .nilptr))
   | _ => none
 | .slice t x lo hi mx => e0V P st t x lo hi mx
 | .lookup t m x co => match ev st m, ev st x, mapT P t with
   | some (.mq j), some (.d (.int k n)), some (q, r) => match lk j st.o with
     | some (.mp q' r' es) => some (q'=q∧r'=r∧k=q,if co then .tup [.d (.int r ((mpAt n es).getD 0)),.d (.bool (mpAt n es).isSome)] else .d (.int r ((mpAt n es).getD 0)))
     | _ => none
   | some (.d (.map q' r' es)),some (.d (.int k n)),some (q,r) => some (q'=q∧r'=r∧k=q,if co then .tup [.d (.int r ((mpAt n es).getD 0)),.d (.bool (mpAt n es).isSome)] else .d (.int r ((mpAt n es).getD 0)))
   | _,_,_ => none
 | .makeFunc f first caps => if first.size = 0 then (evs st caps.toList).map fun cs => (True, .fn f cs) else match first.toList, caps.toList with
   | [x], [] => match ev st x with
     | some (.d y) => some (True,.d (.fn f [y] []))
     | _ => none
   | _,_ => none
 | .call c => match c.callee with
   | .builtin b => builtinV P st b c.args.toList c.argTypes.toList
   | _ => none
 | _ => none
end Abs
