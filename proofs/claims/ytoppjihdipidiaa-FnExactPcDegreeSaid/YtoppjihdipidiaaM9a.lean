/- What functions of this program compute, as contracts over plain data, with what the proofs need of them. No condition. -/
import Derived.Test.YtoppjihdipidiaaG2
import Derived.Test.YtoppjihdipidiaaL1
import Derived.Test.YtoppjihdipidiaaK0
import Derived.Test.YtoppjihdipidiaaAbsOwn
set_option linter.all false
namespace Abs
open Go Go.Proofs
/-- .. that is data, and data beside it. -/
theorem ret_cbd {P : Program} {a j u : Nat} {t e : TypeId} {cells : List AV} {ds : List D} {y : D} {st : St} (h : lk a st.s = some (.p j 0)) (h' : lk u st.s = some (.d y)) (hj : lk j st.o = some (.box e cells)) (hag : aggT P t = true) (hn : P.cellsOf t = cells.length) (hd : allD cells = some ds)
    (hu : (P.underlying t).isSome = true) (hp : (D.agg ds).plain = true) (hy : y.plain = true) : retQ P [.cell a t, .tmp u] false (.tup [.d (.agg ds), .d y]) [] .ret st := by
  refine .inl ?_
  have hl : (lk a st.s).bind (loadV P st.o t) = some (0 + P.cellsOf t ≤ cells.length ∧ (P.underlying t).isSome = true, .d (.agg ds)) := by
    rw [h, Option.bind_some, loadV, hj]
    simp only [hag, if_true, List.drop_zero, hn, List.take_length, hd]
  simp only [retO, resV, hl, h']
  exact ⟨⟨hu, ⟨by omega, hu⟩, trivial⟩, .nil rfl, .inr ⟨⟨hp, hy, trivial⟩, trivial⟩⟩
end Abs
namespace Abs.Y
open Go Go.Proofs Abs
set_option maxRecDepth 100000

/-! ### Planes -/
structure Pl where
  co : List Int
  bd : Int
deriving DecidableEq
@[reducible] def D.pl (p : Pl) : D := .agg [.ints p.co, .int .i64 p.bd]
def plS (p : Pl) (l : Int) : Pl := if 0 < l then ⟨p.co.set (l - 1).toNat 1, p.bd⟩ else ⟨p.co.set (0 - l - 1).toNat (-1), p.bd - 1⟩
def planI (u : Int) (c : List Int) : Pl := c.foldl plS ⟨List.replicate u.toNat 0, 1⟩
/-- Numbers of a size. -/
def Bd (n : Int) (p : Pl) : Prop := (∀ j, -n ≤ p.co.getD j 0 ∧ p.co.getD j 0 ≤ n) ∧ -n ≤ p.bd ∧ p.bd ≤ n
/-- Literals of u variables. -/
def Lits (u : Int) (c : List Int) : Prop := 0 ≤ u ∧ u ≤ 12 ∧ ∀ x ∈ c, x ≠ 0 ∧ -u ≤ x ∧ x ≤ u
/-- One coefficient. -/
def sgl (u v n b : Int) : Pl := ⟨(List.replicate u.toNat 0).set (v - 1).toNat n, b⟩
def litI (u l : Int) : Pl := if 0 < l then sgl u l 1 0 else sgl u (0 - l) (-1) (-1)
/-! ### Sums -/
def zipL (F : Int → Int → Int) (a b : List Int) : List Int := (List.range a.length).map fun i => F (a.getD i 0) (b.getD i 0)
def zipP (F : Int → Int → Int) (q r : Pl) : Pl := ⟨zipL F q.co r.co, F q.bd r.bd⟩
def addP (q r : Pl) : Pl := zipP (· + ·) q r
end Abs.Y
