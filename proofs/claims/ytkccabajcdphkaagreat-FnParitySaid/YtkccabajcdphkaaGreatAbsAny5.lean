/- What functions of this program compute, over plain data. No condition. -/
import Derived.Test.YtkccabajcdphkaaGreatAbsAny3
set_option linter.all false
namespace Abs
open Go Go.RowKit

def isQ4 (o : Oper) : Bool :=
 isQ o || match o.op with
  | .buildSlice _ _ _ => true
  | _ => false
section
variable {P : Program}
theorem hop_extra4 {st st' : St} {o : Oper} {d : Nat} {K : AV->Prop} (hq : isQ4 o=true) (ho : ∀ j,j ≠ d->lk j st'.o=lk j st.o) (h : ∀ x ∈ o.op.operands,ev st' x=ev st x)
 (hd : ∀ x ∈ o.op.operands,∀ v,ev st x=some v->v.has d=false) (hh : hopA P st o K) : hopA P st' o K:=by
 by_cases h1 : isQ o=true
 . exact hop_extra h1 ho h hd hh
 . obtain ⟨dst,op,ty,pos,after,guard⟩:=o
   cases op<;>simp only [isQ4,isQ,Bool.or_false,Bool.or_true,Bool.false_eq_true,not_true_eq_false] at hq h1
   case buildSlice t len ps =>
    simp only [Op.operands] at h
    unfold hopA at hh ⊢
    have e : hv P st' (.buildSlice t len ps)=hv P st (.buildSlice t len ps):=by
     simp only [hv]
     rw [xo4 fun p hp => h p.2 (by simp; exact ⟨p.1,by simpa using hp⟩)]
    simp only [qv] at hh ⊢
    rw [e]
    exact hh
end

section
variable {P : Program} {Z : Nat->Prop} {N B : Nat} {M : Nat->Prop} {w0 : World}
def isMk (o : Oper) : Bool :=
 match o.op with
 | .makeSlice .. => true
 | _ => false
def mkAt (l : List Oper) : Nat:=l.findIdx isMk
def regionOK4 (l : List Oper) : Bool :=
 let n:=mkAt l
 xf9 l (n + 1) && Nat.ble (n + 2) l.length &&
 (match l[n]? with
  | some ⟨some d,.makeSlice _ _ _,_,_,_,none⟩ => (l.take n).all fun o => isQ4 o && (o.dst != some d) && o.dst.isSome && !(xd8 l o).contains d
  | _ => false)
structure Checked4 (l : List Oper) (n d : Nat) (oa : Oper) : Prop where
 hC : Checked' l (n + 1)
 len : n + 2<=l.length
 ha : l[n]? = some oa
 op : ∃ t x y,oa.op=.makeSlice t x y
 dst : oa.dst=some d
 guard : oa.guard=none
 quiet : ∀ k o,k < n->l[k]? = some o->isQ4 o=true∧o.dst ≠ some d∧d ∉ xd8 l o
def mkD : List Oper->Nat
 | [] => 0
 | o :: r => bif isMk o then o.dst.getD 0 else mkD r
def hasMk (l : List Oper) : Bool:=l.any isMk
def onM (P : Program) (t : TypeId) (u v : Option AV) (g : Prop->AO->Prop) : Prop :=
 match u,v with
 | some (.d (.int _ n)), some (.d (.int _ m)) => match xd1 P t with
   | some e => match xe8 P e with
     | some z => g (0 < P.cellsOf e∧z.cells.length=P.cellsOf e∧0<=n∧n<=m∧m<=4294967296∧P.bytesOf e<=65536) (.arr e (P.cellsOf e) (List.replicate n.toNat z))
     | none => False
   | none => False
 | _,_ => False
end
end Abs

namespace Abs
open Go Go.RowKit

section
variable {P : Program} {Z : Nat->Prop} {N B : Nat} {M : Nat->Prop} {w0 : World}
structure Checked5 (l : List Oper) (q n d : Nat) (oa : Oper) : Prop where
 hC : Checked' l q
 lt : n < q
 len : q + 1<=l.length
 ha : l[n]? = some oa
 op : ∃ t x y,oa.op=.makeSlice t x y
 dst : oa.dst=some d
 guard : oa.guard=none
 quiet : ∀ k o,k < q->k ≠ n->l[k]? = some o->isQ4 o=true∧o.dst ≠ some d∧d ∉ xd8 l o
theorem zr3 {l : List Oper} {d : Nat} {t : TypeId} {x y : Operand} {ty pos after} {st : St} {K : St->Prop} : xm2 P N l st ⟨some d,.makeSlice t x y,ty,pos,after,none⟩ K↔onM P t (ev st x) (ev st y) (fun c ob => c∧d < N∧K (xn5 d (.sl d) ob st)):=by
 simp only [xm2,xk4,opA,nilA,qv,lv,onM]
 generalize ev st x=u
 generalize ev st y=v
 rcases u with _ | u
 . exact Iff.rfl
 cases u with
 | d a =>
   cases a with
   | int k i =>
     rcases v with _ | v
     . exact Iff.rfl
     cases v with
     | d b =>
       cases b with
       | int k' j =>
         simp only
         cases xd1 P t with
         | none => exact Iff.rfl
         | some e =>
           simp only
           cases xe8 P e with
           | none => exact Iff.rfl
           | some z => exact Iff.rfl
       | _ => exact Iff.rfl
     | _ => exact Iff.rfl
   | _ => rcases v with _ | v<;>exact Iff.rfl
 | _ => rcases v with _ | v<;>exact Iff.rfl
def regionOK5 (l : List Oper) : Bool :=
 let n:=mkAt l
 let q:=l.length - 1
 xf9 l q && Nat.ble (n + 1) q &&
 (match l[n]? with
  | some ⟨some d,.makeSlice t x y,ty,pos,after,none⟩ => (l.take q).zipIdx.all fun (o,k) => k == n || (isQ4 o && (o.dst != some d) && o.dst.isSome && !(xd8 l o).contains d && (Nat.ble k n || (match o.dst with | some s => !(xd8 l ⟨some d,.makeSlice t x y,ty,pos,after,none⟩).contains s | none => true)))
  | _ => false)
def heads5 (l : List Oper) : List Oper:=l.take (mkAt l)++(l.take (l.length - 1)).drop (mkAt l + 1)
def tails5 (l : List Oper) : List Oper:=(l.drop (mkAt l)).take 1++l.drop (l.length - 1)
def zz6 : List Oper->List Oper
 | o :: o1 :: r => o :: zz6 (o1 :: r)
 | _ => []
def zz3 : List Oper->List Oper
 | _ :: o1 :: r => zz3 (o1 :: r)
 | l => l
def mkOp : List Oper->List Oper
 | [] => []
 | o :: r => bif isMk o then [o] else mkOp r
def heads5r : List Oper->List Oper
 | o :: o1 :: r => bif isMk o then zz6 (o1 :: r) else o :: heads5r (o1 :: r)
 | _ => []
def tails5r (l : List Oper) : List Oper:=mkOp l++zz3 l
end
end Abs
