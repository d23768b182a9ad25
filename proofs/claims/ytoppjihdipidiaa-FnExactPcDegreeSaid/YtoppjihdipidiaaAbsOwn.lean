/- Owned trees in contracts: rows become trees, parts go back, what a result of that kind says. No condition. -/
import Derived.Test.YtoppjihdipidiaaAbsLib
set_option linter.all false
namespace Abs
open Go Go.RowKit

theorem Ctr.data1 {P : Program} {f : FuncId} {xs : List D} {sh : Bool} {e : TypeId} {k : Nat} {es : List D} (h : Ctr P f xs sh (.sl 0) [(0, .arr e k es)]) : Ctr P f xs true (.d (.slice es)) [] := by
  refine ⟨h.1, fun S w vs hl hr => (h.2 S w vs hl hr).mono fun en w' ⟨v, he, hf, β, φ, hrel, hobj, hown, hdis⟩ => ⟨v, he, hf, β, φ, .d ?_, by simp [lk], by simp [lk], by simp [lk]⟩⟩
  cases hrel
  exact rd_of_arr (hobj 0 (.arr e k es) (by simp [lk])) (fun g hg _ => ⟨hg.1.imp id fun h => ⟨rfl, h.2⟩, by simp [lk]⟩) fun g hg => ⟨.inl (hown 0 (.arr e k es) g (by simp [lk]) hg), by simp [lk]⟩
/-- A result that lies in a variable: read as data. -/
theorem ret_c1 {P : Program} {a : Nat} {t : TypeId} {c : Prop} {x : D} {st : St} (h : (lk a st.s).bind (loadV P st.o t) = some (c, .d x)) (hc : c) (hu : (P.underlying t).isSome = true) : retQ P [.cell a t] true (.d x) [] .ret st := by
  refine .inl ?_
  simp only [retO, resV, h]
  exact ⟨⟨hu, hc, trivial⟩, .nil rfl, .inl trivial⟩
/-- .. of a struct type. -/
theorem ret_cb {P : Program} {a j : Nat} {t e : TypeId} {cells : List AV} {ds : List D} {st : St} (h : lk a st.s = some (.p j 0)) (hj : lk j st.o = some (.box e cells)) (hag : aggT P t = true) (hn : P.cellsOf t = cells.length) (hd : allD cells = some ds) (hu : (P.underlying t).isSome = true) :
    retQ P [.cell a t] true (.d (.agg ds)) [] .ret st := by
  refine ret_c1 (c := 0 + P.cellsOf t ≤ cells.length ∧ (P.underlying t).isSome = true) ?_ ⟨by omega, hu⟩ hu
  rw [h, Option.bind_some, loadV, hj]
  simp only [hag, if_true, List.drop_zero, hn, List.take_length, hd]

/-! ### Numbers that are written -/
def cntI (k : Int) : Nat → List Int
  | 0 => []
  | n + 1 => k :: cntI (k + 1) n
end Abs
namespace Abs
end Abs
namespace Abs
def cntSS : List (List Int) → Int → List (List Int)
  | [], _ => []
  | x :: r, k => cntI k x.length :: cntSS r (k + x.length)
def lenSS : List (List Int) → Nat
  | [] => 0
  | x :: r => x.length + lenSS r
/-- The number that stands at the head of list i. -/
def offSS (a : List (List Int)) (k : Int) (i : Nat) : Int := k + (lenSS (a.take i) : Nat)
def lenST : List Step → Nat
  | [] => 0
  | s :: r => s.c.length + 3 + lenST r
def cntST1 (s : Step) (k : Int) : Step := ⟨cntI k s.c.length, k + s.c.length, k + s.c.length + 1, k + s.c.length + 2⟩
def cntST : List Step → Int → List Step
  | [], _ => []
  | s :: r, k => cntST1 s k :: cntST r (k + s.c.length + 3)
def offST (a : List Step) (k : Int) (i : Nat) : Int := k + (lenST (a.take i) : Nat)
end Abs
namespace Abs
end Abs
namespace Abs
end Abs
namespace Abs
end Abs
namespace Abs
open Go Go.RowKit
end Abs
