/- What functions of this program compute, as contracts over plain data, with what the proofs need of them. No condition. -/
import Derived.Test.YtcpflbfcglcjfaaT1
import Derived.Test.YtcpflbfcglcjfaaAbsOwn
set_option linter.all false
namespace Abs.Y
open Go Go.Proofs Abs
open Nat renaming reduceEqDiff → zqa, reduceLT → zqb, reduceAdd → zqc, reduceMul → zqd, reduceSub → zqe, reduceLeDiff → zqf, reduceSubDiff → zqg, reduceBEq → zqh
open Bool renaming not_eq_true' → zba, not_eq_false' → zbb, and_eq_true → zbc, or_eq_true → zbd, or_eq_false_iff → zbe
open Int renaming ofNat_lt → zia, ofNat_le → zib, not_lt → zic, not_le → zid
open Decidable renaming not_not → zda
set_option maxRecDepth 100000

structure PSt where
  q : Pl
  ru : Int
  l : Int
  r : Int
  n : Int
deriving DecidableEq
def PSt.z : PSt := ⟨⟨[], 0⟩, 0, 0, 0, 0⟩
@[reducible] def D.pst (s : PSt) : D := .agg [.ints s.q.co, .int .i64 s.q.bd, .int .i64 s.ru, .int .i64 s.l, .int .i64 s.r, .int .i64 s.n]
theorem el_pst {xs : List PSt} {i : Nat} (h : i < xs.length) : el (xs.map D.pst) i = D.pst (xs.getD i PSt.z) := el_map (f := D.pst) PSt.z h
def coB (x : Int) : Bool := decide (-1000 ≤ x) && decide (x ≤ 1000)
def okPl (u : Int) (q : Pl) : Bool := (decide ((q.co.length : Int) = u) && (decide (-10000 ≤ q.bd) && decide (q.bd ≤ 10000))) && !(q.co.any fun x => !coB x)
def befP (u : Int) (st : List PSt) (k : Nat) (i : Int) : Bool := (decide (0 ≤ i) && decide (i ≤ (k : Int) - 1)) && okPl u (st.getD i.toNat PSt.z).q
end Abs.Y

namespace Abs
open Go Go.RowKit

mutual
def AV.bfz (j : Nat) (x : D) : AV → AV
  | .sl i => if i = j then .undef else .sl i
  | .p i o => if i = j then (if o = 0 then .d (.ptr x) else .undef) else .p i o
  | .pe i k n o => if i = j then .undef else .pe i k n o
  | .mq i => if i = j then .undef else .mq i
  | .sf i k l => if i = j then .undef else .sf i k l
  | .vw i q n k => if q = j then .undef else .vw i q n k
  | .pv i q k n o => if q = j then .undef else .pv i q k n o
  | .tup xs => .tup (AV.bfzL j x xs)
  | .st xs => .st (AV.bfzL j x xs)
  | .fn f cs => .fn f (AV.bfzL j x cs)
  | y => y
def AV.bfzL (j : Nat) (x : D) : List AV → List AV
  | [] => []
  | y :: r => y.bfz j x :: AV.bfzL j x r
end
def bfzS (j : Nat) (x : D) : List (Nat × AV) → List (Nat × AV)
  | [] => []
  | (k, v) :: r => (k, v.bfz j x) :: bfzS j x r
def AO.bfz (j : Nat) (x : D) : AO → AO
  | .box e cells => .box e (AV.bfzL j x cells)
  | .dp t xs (some (c, some d)) => .dp t xs (if d = j then some (c, none) else some (c, some d))
  | y => y
def bfzO (j : Nat) (x : D) : List (Nat × AO) → List (Nat × AO)
  | [] => []
  | (k, v) :: r => if k = j then bfzO j x r else (k, v.bfz j x) :: bfzO j x r
def cutQ (P : Program) (N : Nat) (y : Code) (Q : Exit → St → Prop) (st : St) : Prop := ∃ st', Wk N st st' ∧ Awp P N y Q st'
end Abs
