/- What functions of this program compute, as contracts over plain data, with what the proofs need of them. No condition. -/
import Derived.Test.YtcpflbfcglcjfaaQ12
set_option linter.all false
namespace Abs.Y
open Go Go.Proofs Abs
open Nat renaming reduceEqDiff -> Qa, reduceLT -> Qb, reduceAdd -> Qc, reduceMul -> Qd, reduceSub -> Qe, reduceLeDiff -> Qf, reduceSubDiff -> Qg, reduceBEq -> Qh
open Bool renaming not_eq_true' -> Ba, not_eq_false' -> Bb, and_eq_true -> Bc, or_eq_true -> Bd, or_eq_false_iff -> Be
open Int renaming ofNat_lt -> Ia, ofNat_le -> Ib, not_lt -> Ic, not_le -> Ie
open Decidable renaming not_not -> Da
set_option maxRecDepth 100000

def resOK (u : Int) (a b : List Int) (v : Int) : Bool := okClause u a && (okClause u b && (decide (1 <= v) && decide (v <= u)))
def resI (u : Int) (a b : List Int) (v : Int) : List Int := if resOK u a b v then optL (resolveI a b v) else []
def resB (u : Int) (a b : List Int) (v : Int) : Bool := resOK u a b v && (resolveI a b v).isSome
def isRes (s : Step) : Bool := decide (0 <= s.l) && decide (0 <= s.r)
def pivS (l : List Int) (s : Step) : List Int := if isRes s then incI l (s.p - 1) else l
def pivL (v : Int) (steps : List Step) : List Int := steps.foldl pivS (List.replicate v.toNat 0)
def pivI (v : Int) (cs : List (List Int)) (steps : List Step) : List Int := if proofI v cs steps then pivL v steps else []
end Abs.Y

namespace Abs
open Go Go.Proofs
theorem ret_cstd {P : Program} {a j i u : Nat} {t e : TypeId} {cells cs' : List AV} {ob : AO} {y : D} {st : St} (h : lk a st.s = some (.p j 0)) (h' : lk u st.s = some (.d y)) (hj : lk j st.o = some (.box e cells)) (hag : aggT P t = true) (hn : P.cellsOf t = cells.length) (hd : allD cells = none)
 (hu : (P.underlying t).isSome = true) (hi : lk i st.o = some ob) (hc : cells = AV.renL (fun _ => i) cs') (hp : AV.plainL cs') (hop : ob.plain) (hr : ob.ren (fun _ => i) = ob) (hy : y.plain = true) :
 retQ P [.cell a t, .tmp u] false (.tup [.st cs', .d y]) [(0, ob)] .ret st := by
 refine .inl ?_
 have hl : (lk a st.s).bind (loadV P st.o t) = some (0 + P.cellsOf t <= cells.length ∧ (P.underlying t).isSome = true, .st cells) := by
  rw [h, Option.bind_some, loadV, hj]
  simp only [hag, if_true, List.drop_zero, hn, List.take_length, hd]
 simp only [retO, resV, hl, h']
 exact ⟨⟨hu, ⟨by omega, hu⟩, trivial⟩, .one i (by simp only [oneOf, AV.ren, AV.renL, hc]) (by rw [hr]; exact hi), .inr ⟨⟨hp, hy, trivial⟩, hop, trivial⟩⟩
end Abs
namespace Abs.Y
open Go Go.Proofs Abs
open Nat renaming reduceEqDiff -> Qa, reduceLT -> Qb, reduceAdd -> Qc, reduceMul -> Qd, reduceSub -> Qe, reduceLeDiff -> Qf, reduceSubDiff -> Qg, reduceBEq -> Qh
open Bool renaming not_eq_true' -> Ba, not_eq_false' -> Bb, and_eq_true -> Bc, or_eq_true -> Bd, or_eq_false_iff -> Be
open Int renaming ofNat_lt -> Ia, ofNat_le -> Ib, not_lt -> Ic, not_le -> Ie
open Decidable renaming not_not -> Da
set_option maxRecDepth 100000

structure Pl where
 co : List Int
 bd : Int
deriving DecidableEq
@[reducible] def D.pl (p : Pl) : D := .agg [.ints p.co, .int .i64 p.bd]
def plS (p : Pl) (l : Int) : Pl := if 0 < l then ⟨p.co.set (l - 1).toNat 1, p.bd⟩ else ⟨p.co.set (-l - 1).toNat (-1), p.bd - 1⟩
def planI (u : Int) (c : List Int) : Pl := c.foldl plS ⟨List.replicate u.toNat 0, 1⟩
def Bd (n : Int) (p : Pl) : Prop := (∀ j, -n <= p.co.getD j 0 ∧ p.co.getD j 0 <= n) ∧ -n <= p.bd ∧ p.bd <= n
def Lits (u : Int) (c : List Int) : Prop := 0 <= u ∧ u <= 12 ∧ ∀ x ∈ c, x ≠ 0 ∧ -u <= x ∧ x <= u
end Abs.Y
