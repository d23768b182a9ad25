/- Bits of numbers that are not negative. No condition. -/
import Derived.Test.YtailofgkfldepaaAbsLib
set_option linter.all false
namespace Abs
open Go Go.RowKit

theorem ofInt_nat (a : Nat) : BitVec.ofInt 64 (a : Int) = BitVec.ofNat 64 a := by
  apply BitVec.eq_of_toNat_eq; simp [BitVec.toNat_ofInt]
theorem bitV_and {a b : Nat} (ha : a < 2 ^ 63) (hb : b < 2 ^ 63) : bitV .and .i64 a b = ((a &&& b : Nat) : Int) := by
  have h : a &&& b < 2 ^ 63 := Nat.and_lt_two_pow _ hb
  show IntKind.wrap .i64 (((BitVec.ofInt 64 (a : Int)) &&& (BitVec.ofInt 64 (b : Int))).toNat : Nat) = _
  rw [ofInt_nat, ofInt_nat, BitVec.toNat_and, BitVec.toNat_ofNat, BitVec.toNat_ofNat, Nat.mod_eq_of_lt (by omega), Nat.mod_eq_of_lt (by omega), wrap_of (by omega)]
theorem bitV_or {a b : Nat} (ha : a < 2 ^ 63) (hb : b < 2 ^ 63) : bitV .or .i64 a b = ((a ||| b : Nat) : Int) := by
  have h : a ||| b < 2 ^ 63 := Nat.or_lt_two_pow ha hb
  show IntKind.wrap .i64 (((BitVec.ofInt 64 (a : Int)) ||| (BitVec.ofInt 64 (b : Int))).toNat : Nat) = _
  rw [ofInt_nat, ofInt_nat, BitVec.toNat_or, BitVec.toNat_ofNat, BitVec.toNat_ofNat, Nat.mod_eq_of_lt (by omega), Nat.mod_eq_of_lt (by omega), wrap_of (by omega)]
theorem shl_one {e : Nat} (he : e ≤ 62) : IntKind.wrap .i64 (1 * 2 ^ min e (IntKind.bits .i64)) = ((2 ^ e : Nat) : Int) := by
  have h : 2 ^ e ≤ 2 ^ 62 := Nat.pow_le_pow_right (by decide) he
  rw [show min e (IntKind.bits .i64) = e by simp [IntKind.bits]; omega, Int.one_mul]
  have e1 : ((2 : Int) ^ e) = ((2 ^ e : Nat) : Int) := by simp
  rw [e1]
  generalize 2 ^ e = x at *
  rw [wrap_of (by omega)]
theorem shr_nat {b e : Nat} (he : e ≤ 62) : (b : Int).fdiv (2 ^ min e (IntKind.bits .i64)) = ((b >>> e : Nat) : Int) := by
  rw [show min e (IntKind.bits .i64) = e by simp [IntKind.bits]; omega]
  have e1 : ((2 : Int) ^ e) = ((2 ^ e : Nat) : Int) := by simp
  rw [e1, Nat.shiftRight_eq_div_pow]
  rw [Int.fdiv_eq_ediv_of_nonneg _ (Int.natCast_nonneg _)]; simp
/-- A number's bit. -/
def bitI (b k : Nat) : Int := if b.testBit k then 1 else 0
theorem bit_of {b k : Nat} (hk : k ≤ 62) (hb : b < 2 ^ 63) : bitV .and .i64 ((b : Int).fdiv (2 ^ min k (IntKind.bits .i64))) 1 = bitI b k := by
  rw [shr_nat hk]
  have h : b >>> k < 2 ^ 63 := Nat.lt_of_le_of_lt (Nat.shiftRight_le b k) hb
  have := bitV_and h (b := 1) (by decide)
  rw [show ((1 : Nat) : Int) = 1 from rfl] at this
  rw [this, Nat.and_one_is_mod]
  unfold bitI
  rw [Nat.testBit, Nat.one_and_eq_mod_two, bne]
  rcases Nat.mod_two_eq_zero_or_one (b >>> k) with h | h <;> simp [h]
theorem or_add {b e : Nat} (h : b.testBit e = false) (hb : b < 2 ^ 63) (he : e ≤ 62) : b ||| 2 ^ e = b + 2 ^ e := by
  have hp : 2 ^ e ≤ 2 ^ 62 := Nat.pow_le_pow_right (by decide) he
  have h2 : BitVec.ofNat 64 b &&& BitVec.ofNat 64 (2 ^ e) = 0#64 := by
    apply BitVec.eq_of_toNat_eq
    rw [BitVec.toNat_and, BitVec.toNat_ofNat, BitVec.toNat_ofNat, Nat.mod_eq_of_lt (by omega), Nat.mod_eq_of_lt (by omega)]
    apply Nat.eq_of_testBit_eq
    intro i
    simp only [Nat.testBit_and, Nat.testBit_two_pow]
    by_cases hi : e = i
    · subst hi; simp [h]
    · simp [hi]
  have h3 := congrArg BitVec.toNat (BitVec.add_eq_or_of_and_eq_zero _ _ h2)
  rw [BitVec.toNat_add, BitVec.toNat_or, BitVec.toNat_ofNat, BitVec.toNat_ofNat, Nat.mod_eq_of_lt (a := b) (by omega), Nat.mod_eq_of_lt (a := 2 ^ e) (by omega), Nat.mod_eq_of_lt (by omega)] at h3
  exact h3.symm
end Abs
