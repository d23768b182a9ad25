/- A region that draws its order, in which one row is laid by its length while other operations look and lay nothing that has a name; what follows stands in the text's order. No condition but the region's own check. -/
import Derived.Test.YtiafnejjhnjbfaaDoorAbsAny3
set_option linter.all false
namespace Abs
open Go Go.RowKit

def isQ4 (o : Oper) : Bool :=
 isQ o || match o.op with
  | .buildSlice _ _ _ => true
  | _ => false
section
variable {P : Program}
theorem hop_extra4 {st st' : St} {o : Oper} {d : Nat} {K : AV->Prop} (hq : isQ4 o=true) (ho : ∀ j,j ≠ d->lk j st'.o=lk j st.o) (h : ∀ x ∈ o.op.operands,ev st' x=ev st x)
 (hd : ∀ x ∈ o.op.operands,∀ v,ev st x=some v->v.has d=false) (hh : hopA P st o K) : hopA P st' o K:=by
 by_cases h1 : isQ o=true
 . exact hop_extra h1 ho h hd hh
 . obtain ⟨dst,op,ty,pos,after,guard⟩:=o
   cases op<;>simp only [isQ4,isQ,Bool.or_false,Bool.or_true,Bool.false_eq_true,not_true_eq_false] at hq h1
   case buildSlice t len ps =>
    simp only [Op.operands] at h
    unfold hopA at hh ⊢
    have e : hv P st' (.buildSlice t len ps)=hv P st (.buildSlice t len ps):=by
     simp only [hv]
     rw [partsD_alike fun p hp => h p.2 (by simp; exact ⟨p.1,by simpa using hp⟩)]
    simp only [qv] at hh ⊢
    rw [e]
    exact hh
end

section
variable {P : Program} {Z : Nat->Prop} {N B : Nat} {M : Nat->Prop} {w0 : World}
def isMk (o : Oper) : Bool :=
 match o.op with
 | .makeSlice .. => true
 | _ => false
def mkAt (l : List Oper) : Nat:=l.findIdx isMk
def regionOK4 (l : List Oper) : Bool :=
 let n:=mkAt l
 regionOK l (n + 1) && Nat.ble (n + 2) l.length &&
 (match l[n]? with
  | some ⟨some d,.makeSlice _ _ _,_,_,_,none⟩ => (l.take n).all fun o => isQ4 o && (o.dst != some d) && o.dst.isSome && !(looks l o).contains d
  | _ => false)
structure Checked4 (l : List Oper) (n d : Nat) (oa : Oper) : Prop where
 hC : Checked' l (n + 1)
 len : n + 2<=l.length
 ha : l[n]? = some oa
 op : ∃ t x y,oa.op=.makeSlice t x y
 dst : oa.dst=some d
 guard : oa.guard=none
 quiet : ∀ k o,k < n->l[k]? = some o->isQ4 o=true∧o.dst ≠ some d∧d ∉ looks l o
def mkD : List Oper->Nat
 | [] => 0
 | o :: r => bif isMk o then o.dst.getD 0 else mkD r
def hasMk (l : List Oper) : Bool:=l.any isMk
def onM (P : Program) (t : TypeId) (u v : Option AV) (g : Prop->AO->Prop) : Prop :=
 match u,v with
 | some (.d (.int _ n)), some (.d (.int _ m)) => match elemSl P t with
   | some e => match zeroD P e with
     | some z => g (0 < P.cellsOf e∧z.cells.length=P.cellsOf e∧0<=n∧n<=m∧m<=4294967296∧P.bytesOf e<=65536) (.arr e (P.cellsOf e) (List.replicate n.toNat z))
     | none => False
   | none => False
 | _,_ => False
end
end Abs
