/- Bits of numbers that are not negative. No condition. -/
import Derived.Test.YticigmfmodhfdaaAbsLib
set_option linter.all false
namespace Abs
open Go Go.RowKit

theorem ofInt_nat (a : Nat) : BitVec.ofInt 64 (a : Int) = BitVec.ofNat 64 a := by
  apply BitVec.eq_of_toNat_eq; simp [BitVec.toNat_ofInt]
theorem bitV_or {a b : Nat} (ha : a < 2 ^ 63) (hb : b < 2 ^ 63) : bitV .or .i64 a b = ((a ||| b : Nat) : Int) := by
  have h : a ||| b < 2 ^ 63 := Nat.or_lt_two_pow ha hb
  show IntKind.wrap .i64 (((BitVec.ofInt 64 (a : Int)) ||| (BitVec.ofInt 64 (b : Int))).toNat : Nat) = _
  rw [ofInt_nat, ofInt_nat, BitVec.toNat_or, BitVec.toNat_ofNat, BitVec.toNat_ofNat, Nat.mod_eq_of_lt (by omega), Nat.mod_eq_of_lt (by omega), wrap_of (by omega)]
theorem shl_one {e : Nat} (he : e ≤ 62) : IntKind.wrap .i64 (1 * 2 ^ min e (IntKind.bits .i64)) = ((2 ^ e : Nat) : Int) := by
  have h : 2 ^ e ≤ 2 ^ 62 := Nat.pow_le_pow_right (by decide) he
  rw [show min e (IntKind.bits .i64) = e by simp [IntKind.bits]; omega, Int.one_mul]
  have e1 : ((2 : Int) ^ e) = ((2 ^ e : Nat) : Int) := by simp
  rw [e1]
  generalize 2 ^ e = x at *
  rw [wrap_of (by omega)]
/-- A number's bit. -/
def bitI (b k : Nat) : Int := if b.testBit k then 1 else 0
end Abs
