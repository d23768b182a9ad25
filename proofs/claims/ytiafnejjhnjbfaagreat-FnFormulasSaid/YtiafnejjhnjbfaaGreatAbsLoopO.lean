/- What functions of this program compute, over plain data. No condition. -/
import Derived.Test.YtiafnejjhnjbfaaGreatAbsBox
set_option linter.all false
namespace Abs
open Go Go.RowKit

theorem Ok.go {P : Program} {N : Nat} {c : Code} {Q : Exit->St->Prop} {st : St} (h : Awp P N c Q st) : Ok P N c Q st:=by
 rw [Awp_eq] at h; exact ok_of_awp _ _ _ h
theorem Ok.seq {P : Program} {N : Nat} {x y : Code} {Q : Exit->St->Prop} {st : St} (h : Ok P N x (seqQ (fun st => Ok P N y Q st) Q) st) : Ok P N (.seq x y) Q st:=fun h1 h2 Z B M w0 a w hs => by
 simp only [codeOK,Bool.and_eq_true] at h1
 refine sw_mono x (h h1.1 h2 Z B M w0 a w hs) fun e a' w' hl => ?_
 cases e with
 | normal =>
   simp only [lift] at hl
   obtain ⟨st1,hs1,hy⟩:=hl
   exact hy h1.2 h2 Z B M w0 a' w' hs1
 | exit id => exact hl
 | ret => exact hl
 | _ => exact hl
def tagC (u : Value) : D->D
 | .slice (x :: r) => .tag u (x :: r)
 | c => c
def D.unt : D->D
 | .tag _ es => .slice es
 | c => c
def mapCells (f : Nat->D->D) (k : Nat) (es : List D) : List D:=es.zipIdx.map fun p => match p.1 with
 | .agg cs => .agg (cs.zipIdx.map fun q => f (p.2 * k + q.2) q.1)
 | c => f (p.2 * k) c
def tagE (us : Nat->Value) (k : Nat) (es : List D) : List D:=mapCells (fun i c => tagC (us i) c) k es
def resOf (us : Nat->Value) (es : List D) : List (Value × List D):=(flat es).zipIdx.map fun p => match p.1 with
 | .slice (x :: r) => (us p.2,x :: r)
 | _ => (.slice none 0 0,[])
abbrev Tg:=Value × List Int
def D.tg (p : Tg) : D:=tagC p.1 (.slice (p.2.map (.int .i64)))
def resP (p : Tg) : Value × List D:=match p.2 with
 | [] => (.slice none 0 0,[])
 | x :: r => (p.1,(x :: r).map (.int .i64))
def tgs (us : Nat->Value) (cs : List (List Int)) : List Tg:=cs.zipIdx.map fun p => (us p.2,p.1)
mutual
def D.strip : D->D
 | .tag _ es => .slice es
 | .agg cs => .agg (D.stripL cs)
 | x => x
def D.stripL : List D->List D
 | [] => []
 | x :: r => x.strip :: D.stripL r
end
end Abs

namespace Abs
open Go Go.RowKit

end Abs

namespace Abs
open Go Go.RowKit
theorem Ok.block {P : Program} {N id : Nat} {c : Code} {Q : Exit->St->Prop} {st : St} (h : Ok P N c (blockQ id Q) st) : Ok P N (.block id c) Q st:=fun h1 h2 Z B M w0 a w hs => by
 refine sw_mono c (h h1 h2 Z B M w0 a w hs) fun e a w hl => ?_
 cases e with
 | exit id' =>
   obtain ⟨st',hs',hk⟩:=hl
   simp only [blockQ] at hk
   simp only [Exit.inBlock]
   split
   . rename_i e; rw [if_pos e] at hk; exact ⟨st',hs',hk⟩
   . rename_i e; rw [if_neg e] at hk; exact ⟨st',hs',hk⟩
 | normal => exact hl
 | goto l => exact hl
 | ret => exact hl
 | panic ch => exact hl
 | outgrown => exact hl
end Abs
