/- What functions of this program compute, as contracts over plain data, with what the proofs need of them. No condition. -/
import Derived.Test.YtoppjihdipidiaaH1
set_option linter.all false
namespace Abs.Y
open Go Go.Proofs Abs
open Nat renaming reduceEqDiff → zqa, reduceLT → zqb, reduceAdd → zqc, reduceMul → zqd, reduceSub → zqe, reduceLeDiff → zqf, reduceSubDiff → zqg, reduceBEq → zqh
open Bool renaming not_eq_true' → zba, not_eq_false' → zbb, and_eq_true → zbc, or_eq_true → zbd, or_eq_false_iff → zbe
open Int renaming ofNat_lt → zia, ofNat_le → zib, not_lt → zic, not_le → zid
open Decidable renaming not_not → zda
set_option maxRecDepth 100000

def evS (v : List Int) (x : Nat) : Int := sumR v.length fun m => if m &&& x = m then v.getD m 0 else 0
def ev (p : Int) (v : List Int) (x : Nat) : Int := evS v x % p
section
variable {p : Int} (hp : 1 < p)
include hp
def litT (x : Nat) (l : Int) : Bool := x.testBit (l.natAbs - 1) == decide (0 < l)
omit hp in
end
end Abs.Y

namespace Abs.Y
open Go Go.Proofs Abs
open Nat renaming reduceEqDiff → zqa, reduceLT → zqb, reduceAdd → zqc, reduceMul → zqd, reduceSub → zqe, reduceLeDiff → zqf, reduceSubDiff → zqg, reduceBEq → zqh
open Bool renaming not_eq_true' → zba, not_eq_false' → zbb, and_eq_true → zbc, or_eq_true → zbd, or_eq_false_iff → zbe
open Int renaming ofNat_lt → zia, ofNat_le → zib, not_lt → zic, not_le → zid
open Decidable renaming not_not → zda
set_option maxRecDepth 100000

def prodC (p : Int) (u : Nat) (c : List Int) (m : Nat) : List Int := mulD p (2 ^ u) (clauseD p u c) (monoD u m)
def GmL (u : Nat) (d : Int) (L : List Nat) : Prop := ∀ m, m ∈ L ↔ m < 2 ^ u ∧ (cnt m : Int) ≤ d
def prodsP (p : Int) (u : Nat) (G : Int → List Nat) (cs : List (List Int)) (d : Int) : List (List Int) := cs.flatMap fun c => if (c.length : Int) ≤ d then (G (d - c.length)).map (prodC p u c) else []
theorem prodC_vec {p : Int} (hp : 1 < p) (u : Nat) (c : List Int) (m : Nat) : Vec p (2 ^ u) (prodC p u c m) := Vec.mulD (by omega) _ _ _
theorem prodsP_mem {p : Int} {u : Nat} {G : Int → List Nat} {cs : List (List Int)} {d : Int} (hG : ∀ d, GmL u d (G d)) {a : List Int} :
    a ∈ prodsP p u G cs d ↔ ∃ c ∈ cs, (c.length : Int) ≤ d ∧ ∃ m, m < 2 ^ u ∧ (cnt m : Int) ≤ d - c.length ∧ a = prodC p u c m := by
  unfold prodsP
  rw [List.mem_flatMap]
  constructor
  · rintro ⟨c, hc, h⟩
    by_cases hl : (c.length : Int) ≤ d
    · rw [if_pos hl, List.mem_map] at h
      obtain ⟨m, hm, rfl⟩ := h
      obtain ⟨h1, h2⟩ := (hG _ m).1 hm
      exact ⟨c, hc, hl, m, h1, h2, rfl⟩
    · rw [if_neg hl] at h; cases h
  · rintro ⟨c, hc, hl, m, h1, h2, rfl⟩
    exact ⟨c, hc, by rw [if_pos hl, List.mem_map]; exact ⟨m, (hG _ m).2 ⟨h1, h2⟩, rfl⟩⟩
theorem prodsP_eq {p : Int} {u : Nat} {G G' : Int → List Nat} {cs : List (List Int)} {d : Int} (hG : ∀ d, GmL u d (G d)) (hG' : ∀ d, GmL u d (G' d)) : SpEq p (2 ^ u) (prodsP p u G cs d) (prodsP p u G' cs d) := fun v =>
  ⟨Sp.mono fun r hr => (prodsP_mem hG').2 ((prodsP_mem hG).1 hr), Sp.mono fun r hr => (prodsP_mem hG).2 ((prodsP_mem hG').1 hr)⟩
def varsD (c : List Int) : List Nat := c.map fun l => l.natAbs - 1
section
variable {p : Int} {u : Nat} (hp : 1 < p) (hu : u ≤ 6)
include hp
include hu
omit hu in
def partM (p : Int) (u : Nat) (w : List Int) (k : Nat) : List Int := (List.range k).foldl (fun v m => addD p (w.getD m 0) v (monoD u m)) (List.replicate (2 ^ u) 0)
omit hp hu in
omit hu in
omit hu in
omit hu in
def notAll (p : Int) (u : Nat) : List (List Int) → List Int
  | [] => monoD u 0
  | c :: r => mulD p (2 ^ u) (notAll p u r) (addD p (p - 1) (monoD u 0) (clauseD p u c))
omit hu in
omit hu in
omit hu in
end
end Abs.Y
