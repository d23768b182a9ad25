/- From a row to a contract: an argument's reading as the row has it gives data. No condition. -/
import Derived.Test.YticigmfmodhfdaaAbsSimp
import Derived.ProofKit
import Derived.OpenShut
import Derived.ShutString
import Derived.ChangeOld
import Derived.Below
import Derived.Deep.Slices
set_option linter.all false
namespace Abs
open Go Go.RowKit Go.ChangeShapes Go.WideShapes Go.ChangeAt Go.Deep

/-- Whatever lies in cells cs of type t reads as data x with R x. -/
def OpC (P : Program) (t : TypeId) (agg : Bool) (R : D → Prop) : Prop :=
  ∀ (H : Type) (enc : TypeId × Value → H) (w : World) (fuel : Nat) (cs : List Value) (y : DataW H × List MemPlace), DataW.trod enc P w 0 (fun _ => true) true fuel t cs = some y →
    ∃ x : D, x.isAgg = agg ∧ x.cells.length = cs.length ∧ cs.length = P.cellsOf t ∧ (∀ i, i < cs.length → Rd (fun _ => True) w (x.cells.getD i .nilptr) (cs.getD i Go.undef)) ∧ R x

def OpV (P : Program) (t : TypeId) (R : D → Prop) : Prop :=
  ∀ (H : Type) (enc : TypeId × Value → H) (w : World) (v : Value) (d : DataW H) (p : List MemPlace), Value.okWide P w .any 0 t v → DataW.Trod enc P w 0 (fun _ => true) true t v d p → ∃ x : D, Rd (fun _ => True) w x v ∧ R x

def isI64 (x : D) : Prop := ∃ n : Int, x = .int .i64 n ∧ -9223372036854775808 ≤ n ∧ n ≤ 9223372036854775807
def isBool (x : D) : Prop := ∃ b : Bool, x = .bool b
def isStr (x : D) : Prop := ∃ s : ByteArray, x = .str s ∧ s.size ≤ maxLen
def isSl (R : D → Prop) (x : D) : Prop := ∃ es : List D, x = .slice es ∧ es.length ≤ maxLen ∧ ∀ e ∈ es, R e
def isSt (Rs : List (D → Prop)) (x : D) : Prop := ∃ es : List D, x = .agg (flat es) ∧ es.length = Rs.length ∧ ∀ i, i < Rs.length → (Rs.getD i fun _ => True) (es.getD i .nilptr)

/-! ### Structs -/
/-- Fields that lie one behind the other from 'off' on. -/
inductive OpF (P : Program) : Nat → List Field → List (D → Prop) → Nat → Prop
  | nil (off) : OpF P off [] [] off
  | cons {off tot : Nat} {f : Field} {fs : List Field} {agg : Bool} {R : D → Prop} {Rs : List (D → Prop)} (ho : f.offset = off) (h : OpC P f.type agg R) (hs : OpF P (off + P.cellsOf f.type) fs Rs tot) : OpF P off (f :: fs) (R :: Rs) tot

/-! ### Arrays -/
def arF (P : Program) (e : TypeId) : Nat → Nat → List Field
  | 0, _ => []
  | n + 1, off => { (default : Field) with type := e, offset := off } :: arF P e n (off + P.cellsOf e)
/-! ### Arguments -/
/-! ### All arguments -/
inductive OpA (P : Program) : List TypeId → List (D → Prop) → Prop
  | nil : OpA P [] []
  | cons {t : TypeId} {ts : List TypeId} {R : D → Prop} {Rs : List (D → Prop)} (h : OpV P t R) (hs : OpA P ts Rs) : OpA P (t :: ts) (R :: Rs)

def AllR : List (D → Prop) → List D → Prop
  | [], [] => True
  | R :: Rs, x :: xs => R x ∧ AllR Rs xs
  | _, _ => False

theorem allR_cons {R : D → Prop} {Rs : List (D → Prop)} {xs : List D} (h : AllR (R :: Rs) xs) : ∃ x ys, xs = x :: ys ∧ R x ∧ AllR Rs ys := by
  cases xs with
  | nil => exact h.elim
  | cons x ys => exact ⟨x, ys, rfl, h.1, h.2⟩
theorem allR_nil {xs : List D} (h : AllR [] xs) : xs = [] := by
  cases xs with
  | nil => rfl
  | cons x ys => exact h.elim
end Abs
