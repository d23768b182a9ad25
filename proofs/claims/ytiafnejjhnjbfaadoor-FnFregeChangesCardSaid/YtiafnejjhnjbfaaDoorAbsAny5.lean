/- A region that draws its order, in which one row is laid by its length while other operations, ahead of it and behind it in the text, look and lay nothing that has a name; what follows stands in the text's order. No condition but the region's own check. -/
import Derived.Test.YtiafnejjhnjbfaaDoorAbsAny4
set_option linter.all false
namespace Abs
open Go Go.RowKit

section
variable {P : Program} {Z : Nat->Prop} {N B : Nat} {M : Nat->Prop} {w0 : World}
structure Checked5 (l : List Oper) (q n d : Nat) (oa : Oper) : Prop where
 hC : Checked' l q
 lt : n < q
 len : q + 1<=l.length
 ha : l[n]? = some oa
 op : ∃ t x y,oa.op=.makeSlice t x y
 dst : oa.dst=some d
 guard : oa.guard=none
 quiet : ∀ k o,k < q->k ≠ n->l[k]? = some o->isQ4 o=true∧o.dst ≠ some d∧d ∉ looks l o
theorem mk_step {l : List Oper} {d : Nat} {t : TypeId} {x y : Operand} {ty pos after} {st : St} {K : St->Prop} : stepA P N l st ⟨some d,.makeSlice t x y,ty,pos,after,none⟩ K↔onM P t (ev st x) (ev st y) (fun c ob => c∧d < N∧K (newSt d (.sl d) ob st)):=by
 simp only [stepA,guardA,opA,nilA,qv,lv,onM]
 generalize ev st x=u
 generalize ev st y=v
 rcases u with _ | u
 . exact Iff.rfl
 cases u with
 | d a =>
   cases a with
   | int k i =>
     rcases v with _ | v
     . exact Iff.rfl
     cases v with
     | d b =>
       cases b with
       | int k' j =>
         simp only
         cases elemSl P t with
         | none => exact Iff.rfl
         | some e =>
           simp only
           cases zeroD P e with
           | none => exact Iff.rfl
           | some z => exact Iff.rfl
       | _ => exact Iff.rfl
     | _ => exact Iff.rfl
   | _ => rcases v with _ | v<;>exact Iff.rfl
 | _ => rcases v with _ | v<;>exact Iff.rfl
def regionOK5 (l : List Oper) : Bool :=
 let n:=mkAt l
 let q:=l.length - 1
 regionOK l q && Nat.ble (n + 1) q &&
 (match l[n]? with
  | some ⟨some d,.makeSlice t x y,ty,pos,after,none⟩ => (l.take q).zipIdx.all fun (o,k) => k == n || (isQ4 o && (o.dst != some d) && o.dst.isSome && !(looks l o).contains d && (Nat.ble k n || (match o.dst with | some s => !(looks l ⟨some d,.makeSlice t x y,ty,pos,after,none⟩).contains s | none => true)))
  | _ => false)
def heads5 (l : List Oper) : List Oper:=l.take (mkAt l)++(l.take (l.length - 1)).drop (mkAt l + 1)
def tails5 (l : List Oper) : List Oper:=(l.drop (mkAt l)).take 1++l.drop (l.length - 1)
def init1 : List Oper->List Oper
 | o :: o1 :: r => o :: init1 (o1 :: r)
 | _ => []
def last1 : List Oper->List Oper
 | _ :: o1 :: r => last1 (o1 :: r)
 | l => l
def mkOp : List Oper->List Oper
 | [] => []
 | o :: r => bif isMk o then [o] else mkOp r
def heads5r : List Oper->List Oper
 | o :: o1 :: r => bif isMk o then init1 (o1 :: r) else o :: heads5r (o1 :: r)
 | _ => []
def tails5r (l : List Oper) : List Oper:=mkOp l++last1 l
end
end Abs
