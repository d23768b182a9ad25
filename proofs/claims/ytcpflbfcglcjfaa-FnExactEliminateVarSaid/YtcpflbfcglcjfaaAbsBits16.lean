/- What functions of this program compute, as contracts over plain data, with what the proofs need of them. No condition. -/
import Derived.Test.YtcpflbfcglcjfaaAbsBox
import Derived.Test.YtcpflbfcglcjfaaG5d
import Derived.Test.YtcpflbfcglcjfaaAbsRow
set_option linter.all false
namespace Abs.Y
open Go Go.Proofs Abs
open Nat renaming reduceEqDiff -> Qa, reduceLT -> Qb, reduceAdd -> Qc, reduceMul -> Qd, reduceSub -> Qe, reduceLeDiff -> Qf, reduceSubDiff -> Qg, reduceBEq -> Qh
open Bool renaming not_eq_true' -> Ba, not_eq_false' -> Bb, and_eq_true -> Bc, or_eq_true -> Bd, or_eq_false_iff -> Be
open Int renaming ofNat_lt -> Ia, ofNat_le -> Ib, not_lt -> Ic, not_le -> Ie
open Decidable renaming not_not -> Da
set_option maxRecDepth 100000

def G6 (c : List Int) : Prop := Good c ∧ ∀ x ∈ c, x.natAbs <= 6
def bitOf (l : Int) : Nat := if 0 < l then (l - 1).toNat else (5 - l).toNat
theorem bitOf_lt {l : Int} (h0 : l ≠ 0) (h : l.natAbs <= 6) : bitOf l < 12 := by unfold bitOf; split <;> omega
theorem bitOf_inj {l k : Int} (h0 : l ≠ 0) (h : l.natAbs <= 6) (k0 : k ≠ 0) (hk : k.natAbs <= 6) (e : bitOf l = bitOf k) : l = k := by
 unfold bitOf at e; split at e <;> split at e <;> omega
def mkN (c : List Int) : Nat := c.foldl (fun m l => m ||| 2 ^ bitOf l) 0
theorem mkF_bit : ∀ (c : List Int) (m i : Nat), (c.foldl (fun m l => m ||| 2 ^ bitOf l) m).testBit i = (m.testBit i || c.any fun l => bitOf l == i)
 | [], m, i => by simp
 | l :: r, m, i => by
   rw [List.foldl_cons, mkF_bit r, Nat.testBit_or, List.any_cons, Nat.testBit_two_pow, Bool.or_assoc]
   rfl
theorem mkN_bit (c : List Int) (i : Nat) : (mkN c).testBit i = c.any fun l => bitOf l == i := by
 rw [mkN, mkF_bit, Nat.zero_testBit, Bool.false_or]
theorem mkN_has {c : List Int} (g : G6 c) {l : Int} (h0 : l ≠ 0) (h : l.natAbs <= 6) : (mkN c).testBit (bitOf l) = true ↔ l ∈ c := by
 rw [mkN_bit, List.any_eq_true]
 constructor
 . rintro ⟨x, hx, e⟩
   rw [beq_iff_eq] at e
   have := bitOf_inj ((g.1.2 x hx).1) (g.2 x hx) h0 h e
   rwa [← this]
 . exact fun hx => ⟨l, hx, by simp⟩
theorem mkN_lt {c : List Int} (g : G6 c) : mkN c < 4096 := by
 refine Nat.lt_pow_two_of_testBit (n := 12) _ fun i hi => ?_
 rw [mkN_bit, List.any_eq_false]
 intro x hx e
 rw [beq_iff_eq] at e
 have := bitOf_lt (g.1.2 x hx).1 (g.2 x hx)
 omega
theorem mkN_inj {a b : List Int} (ga : G6 a) (gb : G6 b) (e : mkN a = mkN b) : a = b := by
 refine good_uniq ga.1 gb.1 fun x => ?_
 constructor
 . intro hx
   have h0 := (ga.1.2 x hx).1
   have h1 := ga.2 x hx
   exact (mkN_has gb h0 h1).1 (e ▸ (mkN_has ga h0 h1).2 hx)
 . intro hx
   have h0 := (gb.1.2 x hx).1
   have h1 := gb.2 x hx
   exact (mkN_has ga h0 h1).1 (e ▸ (mkN_has gb h0 h1).2 hx)
def swN (m : Nat) : Nat := (m &&& 63) <<< 6 ||| m >>> 6
def clN (a b : Nat) : Nat := a &&& swN b
def boN (a b : Nat) : Nat := (clN a b ||| clN a b >>> 6) &&& 63
def oneN (m : Nat) : Bool := m != 0 && (m &&& (m - 1)) == 0
def Clash (a b : List Int) (v : Int) : Prop := (v ∈ a ∧ -v ∈ b) ∨ (-v ∈ a ∧ v ∈ b)
theorem neg_sm {v : Int} (h : 1 <= v ∧ v <= 12) : IntKind.i64.wrap (0 - v) = -v := by rw [wrap_of (by omega)]; omega
theorem varI_sm {x : Int} (h : x.natAbs <= 12) : varI x = x.natAbs := varI_eq (by omega)
theorem resolveI_some {a b c : List Int} (ga : G6 a) (gb : G6 b) {v : Int} (hv : 1 <= v) (h : resolveI a b v = some c) :
 v <= 6 ∧ v ∈ a ∧ -v ∈ b ∧ G6 c ∧ (∀ x, x ∈ c ↔ (x ∈ a ∨ x ∈ b) ∧ x.natAbs ≠ v.natAbs) ∧ ∀ y, y ≠ v -> 1 <= y -> ¬ Clash a b y := by
 unfold resolveI at h
 split at h
 . rename_i h1
   rw [Bc] at h1
   have hva := any_eq.1 h1.1
   have hv6 : v <= 6 := by have := ga.2 v hva; omega
   have hvb := any_eq.1 h1.2
   rw [neg_sm ⟨hv, by omega⟩] at hvb
   have hmem : ∀ {z : List Int}, G6 z -> ∀ x, (x ∈ z.filter fun l => varI l != v) ↔ x ∈ z ∧ x.natAbs ≠ v.natAbs := fun gz x => by
    rw [List.mem_filter]
    refine and_congr_right fun hx => ?_
    have := gz.2 x hx
    rw [bne_iff_ne, varI_sm (by omega)]
    omega
   have gfa : Good (a.filter fun l => varI l != v) := good_filter ga.1 _
   have hfb : ∀ x ∈ b.filter fun l => varI l != v, x ≠ 0 ∧ x.natAbs <= 12 := fun x hx => gb.1.2 x (List.mem_filter.1 hx).1
   obtain ⟨g, hm⟩ := (joinI_spec gfa hfb).1 c h
   have hm' : ∀ x, x ∈ c ↔ (x ∈ a ∨ x ∈ b) ∧ x.natAbs ≠ v.natAbs := fun x => by
    rw [hm, hmem ga, hmem gb]
    constructor
    . rintro (⟨h, h'⟩ | ⟨h, h'⟩)
      . exact ⟨.inl h, h'⟩
      . exact ⟨.inr h, h'⟩
    . rintro ⟨h | h, h'⟩
      . exact .inl ⟨h, h'⟩
      . exact .inr ⟨h, h'⟩
   refine ⟨hv6, hva, hvb, ⟨g, fun x hx => ?_⟩, hm', fun y hy hy1 hc => ?_⟩
   . rcases ((hm' x).1 hx).1 with h | h
     . exact ga.2 x h
     . exact gb.2 x h
   . have hyv : y.natAbs ≠ v.natAbs := by omega
     have hyv' : (-y).natAbs ≠ v.natAbs := by omega
     rcases hc with ⟨h1, h2⟩ | ⟨h1, h2⟩
     . exact good_neg g ((hm' y).2 ⟨.inl h1, hyv⟩) ((hm' (-y)).2 ⟨.inr h2, hyv'⟩)
     . exact good_neg g ((hm' y).2 ⟨.inr h2, hyv⟩) ((hm' (-y)).2 ⟨.inl h1, hyv'⟩)
 . cases h
def outN (a b k : Nat) : Nat := (a ||| b) &&& (4095 ^^^ (k ||| k <<< 6))
def pcN (m : Nat) : Nat := ((List.range 12).filter fun i => m.testBit i).length
def clV (m : Nat) (v : Nat) : List Int := (if m.testBit v = true then [(v : Int) + 1] else []) ++ (if m.testBit (6 + v) = true then [-((v : Int) + 1)] else [])
def clsN (m : Nat) : List Int := (List.range 6).flatMap (clV m)
end Abs.Y

namespace Abs
open Go Go.RowKit

def bitI (b k : Nat) : Int := if b.testBit k then 1 else 0
end Abs

namespace Abs
open Go Go.RowKit
end Abs
