/- What functions of this program compute, as contracts over plain data, with what the proofs need of them. No condition. -/
import Derived.Test.YtoppjihdipidiaaAbsLib
import Derived.Test.YtoppjihdipidiaaG1
set_option linter.all false
namespace Abs
open Go Go.RowKit

theorem ofInt_nat (a : Nat) : BitVec.ofInt 64 (a : Int) = BitVec.ofNat 64 a := by
  apply BitVec.eq_of_toNat_eq; simp [BitVec.toNat_ofInt]
theorem bitV_or {a b : Nat} (ha : a < 2 ^ 63) (hb : b < 2 ^ 63) : bitV .or .i64 a b = ((a ||| b : Nat) : Int) := by
  have h : a ||| b < 2 ^ 63 := Nat.or_lt_two_pow ha hb
  show IntKind.wrap .i64 (((BitVec.ofInt 64 (a : Int)) ||| (BitVec.ofInt 64 (b : Int))).toNat : Nat) = _
  rw [ofInt_nat, ofInt_nat, BitVec.toNat_or, BitVec.toNat_ofNat, BitVec.toNat_ofNat, Nat.mod_eq_of_lt (by omega), Nat.mod_eq_of_lt (by omega), wrap_of (by omega)]
theorem shl_one {e : Nat} (he : e ≤ 62) : IntKind.wrap .i64 (1 * 2 ^ min e (IntKind.bits .i64)) = ((2 ^ e : Nat) : Int) := by
  have h : 2 ^ e ≤ 2 ^ 62 := Nat.pow_le_pow_right (by decide) he
  rw [show min e (IntKind.bits .i64) = e by simp [IntKind.bits]; omega, Int.one_mul]
  have e1 : ((2 : Int) ^ e) = ((2 ^ e : Nat) : Int) := by simp
  rw [e1]
  generalize 2 ^ e = x at *
  rw [wrap_of (by omega)]
/-- A number's bit. -/
def bitI (b k : Nat) : Int := if b.testBit k then 1 else 0
end Abs

namespace Abs.Y
open Go Go.Proofs Abs
set_option maxRecDepth 100000

/-! ### Polynomials by their coefficients: plain laws -/
/-- Coefficients modulo p, n of them. -/
def Vec (p : Int) (n : Nat) (v : List Int) : Prop := v.length = n ∧ ∀ i, 0 ≤ v.getD i 0 ∧ v.getD i 0 < p
/-- Some more at a place. -/
def stP (p : Int) (v : List Int) (m : Nat) (c : Int) : List Int := v.set m ((v.getD m 0 + c) % p)
theorem getD_set (v : List Int) (m : Nat) (x : Int) (i : Nat) : (v.set m x).getD i 0 = if m = i ∧ i < v.length then x else v.getD i 0 := by
  rw [List.getD_eq_getElem?_getD, List.getElem?_set, List.getD_eq_getElem?_getD]
  by_cases e : m = i
  · subst e
    by_cases h : m < v.length
    · simp [h]
    · simp [h]
  · simp [e]
theorem Vec.st {p : Int} {n : Nat} {v : List Int} (hp : 0 < p) (h : Vec p n v) (m : Nat) (c : Int) : Vec p n (stP p v m c) := by
  refine ⟨by simp [stP, h.1], fun i => ?_⟩
  rw [stP, getD_set]
  split
  · exact ⟨Int.emod_nonneg _ (by omega), Int.emod_lt_of_pos _ hp⟩
  · exact h.2 i
theorem Vec.zero {p : Int} (hp : 0 < p) (n : Nat) : Vec p n (List.replicate n 0) := by
  refine ⟨by simp, fun i => ?_⟩
  rw [List.getD_eq_getElem?_getD, List.getElem?_replicate]
  split <;> simp <;> omega
theorem st_zero {p : Int} {n : Nat} {v : List Int} (h : Vec p n v) (m : Nat) : stP p v m 0 = v := by
  have hm := h.2 m
  unfold stP
  rw [Int.add_zero, Int.emod_eq_of_lt hm.1 hm.2]
  by_cases hl : m < v.length
  · rw [List.getD_eq_getElem?_getD, List.getElem?_eq_getElem hl, Option.getD_some, List.set_getElem_self]
  · rw [List.set_eq_of_length_le (by omega)]
/-- The terms of coefficients. -/
def spT (v : List Int) : List (Int × Int) := ((List.range v.length).filter fun m => decide (v.getD m 0 ≠ 0)).map fun m : Nat => ((m : Int), v.getD m 0)
/-- What leaves zeros out does the same. -/
theorem fold_sp {α : Type} (I : α → Prop) (g : α → Nat → Int → α) (v : List Int) (hI : ∀ a m c, I a → I (g a m c)) (h0 : ∀ a m, I a → g a m 0 = a) :
    ∀ (r : List Nat) (a : α), I a → ((r.filter fun m => decide (v.getD m 0 ≠ 0)).map fun m : Nat => ((m : Int), v.getD m 0)).foldl (fun a (t : Int × Int) => g a t.1.toNat t.2) a = r.foldl (fun a m => g a m (v.getD m 0)) a
  | [], _, _ => rfl
  | m :: r, a, ha => by
    by_cases hz : v.getD m 0 = 0
    · rw [List.filter_cons_of_neg (by rw [decide_eq_true_eq]; exact fun h => h hz), List.foldl_cons, hz, h0 a m ha]
      exact fold_sp I g v hI h0 r a ha
    · rw [List.filter_cons_of_pos (by rw [decide_eq_true_eq]; exact hz), List.map_cons, List.foldl_cons, List.foldl_cons]
      simp only [Int.toNat_natCast]
      exact fold_sp I g v hI h0 r _ (hI a m _ ha)
/-- The product: all pairs of places. -/
def rowD (p : Int) (b : List Int) (m : Nat) (c : Int) (v : List Int) : List Int := (List.range b.length).foldl (fun v n => stP p v (m ||| n) (c * b.getD n 0)) v
def mulD (p : Int) (n : Nat) (a b : List Int) : List Int := (List.range a.length).foldl (fun v m => rowD p b m (a.getD m 0) v) (List.replicate n 0)
/-- .. and of terms. -/
def rowS (p : Int) (b : List (Int × Int)) (m : Nat) (c : Int) (v : List Int) : List Int := b.foldl (fun v (t : Int × Int) => stP p v (m ||| t.1.toNat) (c * t.2)) v
def mulS (p : Int) (n : Nat) (a b : List (Int × Int)) : List Int := a.foldl (fun v (s : Int × Int) => rowS p b s.1.toNat s.2 v) (List.replicate n 0)
theorem fold_vec {α : Type} {p : Int} {n : Nat} {f : List Int → α → List Int} (hf : ∀ v x, Vec p n v → Vec p n (f v x)) : ∀ (r : List α) {v : List Int}, Vec p n v → Vec p n (r.foldl f v)
  | [], _, h => h
  | x :: r, v, h => fold_vec hf r (hf v x h)
theorem Vec.rowS {p : Int} {n : Nat} {v : List Int} (hp : 0 < p) (h : Vec p n v) (b : List (Int × Int)) (m : Nat) (c : Int) : Vec p n (rowS p b m c v) :=
  fold_vec (fun v t h => h.st hp _ _) b h
theorem Vec.rowD {p : Int} {n : Nat} {v : List Int} (hp : 0 < p) (h : Vec p n v) (b : List Int) (m : Nat) (c : Int) : Vec p n (rowD p b m c v) :=
  fold_vec (fun v t h => h.st hp _ _) _ h
theorem Vec.mulD {p : Int} (hp : 0 < p) (n : Nat) (a b : List Int) : Vec p n (mulD p n a b) := fold_vec (fun v m h => h.rowD hp b m _) _ (Vec.zero hp n)
theorem row_eq {p : Int} {n : Nat} {b : List Int} (hp : 0 < p) {v : List Int} (h : Vec p n v) (m : Nat) (c : Int) : rowS p (spT b) m c v = rowD p b m c v := by
  refine fold_sp (Vec p n) (fun v k d => stP p v (m ||| k) (c * d)) b (fun v k d h => h.st hp _ _) (fun v k h => ?_) (List.range b.length) v h
  show stP p v (m ||| k) (c * 0) = v
  rw [Int.mul_zero]; exact st_zero h _
theorem row_zero {p : Int} {n : Nat} {v : List Int} (h : Vec p n v) (b : List (Int × Int)) (m : Nat) : rowS p b m 0 v = v := by
  induction b with
  | nil => rfl
  | cons t r ih =>
    show rowS p r m 0 (stP p v (m ||| t.1.toNat) (0 * t.2)) = v
    rw [Int.zero_mul, st_zero h]; exact ih
theorem mul_eq {p : Int} {n : Nat} {a b : List Int} (hp : 0 < p) : mulS p n (spT a) (spT b) = mulD p n a b := by
  have h1 := fold_sp (Vec p n) (fun v m c => rowS p (spT b) m c v) a (fun v m c h => h.rowS hp _ m c) (fun v m h => row_zero h _ m) (List.range a.length) (List.replicate n 0) (Vec.zero hp n)
  show (spT a).foldl _ _ = _
  refine Eq.trans h1 ?_
  unfold mulD
  have : ∀ (r : List Nat) (v : List Int), Vec p n v → r.foldl (fun v m => rowS p (spT b) m (a.getD m 0) v) v = r.foldl (fun v m => rowD p b m (a.getD m 0) v) v := by
    intro r
    induction r with
    | nil => intro v _; rfl
    | cons m r ih =>
      intro v h
      rw [List.foldl_cons, List.foldl_cons, row_eq hp h]
      exact ih _ (h.rowD hp b m _)
  exact this _ _ (Vec.zero hp n)
/-- One polynomial plus a multiple of another. -/
def addD (p k : Int) (a b : List Int) : List Int := List.zipWith (fun x y => (x + k * y) % p) a b
theorem getD_zip (f : Int → Int → Int) (a b : List Int) (h : a.length = b.length) (i : Nat) (hi : i < a.length) : (List.zipWith f a b).getD i 0 = f (a.getD i 0) (b.getD i 0) := by
  simp only [List.getD_eq_getElem?_getD, List.getElem?_zipWith]
  rw [List.getElem?_eq_getElem (by omega), List.getElem?_eq_getElem (by omega)]; rfl
theorem Vec.addD {p k : Int} {n : Nat} {a b : List Int} (hp : 0 < p) (ha : a.length = n) (hb : b.length = n) : Vec p n (addD p k a b) := by
  refine ⟨by simp [Y.addD, ha, hb], fun i => ?_⟩
  by_cases hi : i < a.length
  · rw [Y.addD, getD_zip _ _ _ (by omega) i hi]
    exact ⟨Int.emod_nonneg _ (by omega), Int.emod_lt_of_pos _ hp⟩
  · rw [List.getD_eq_getElem?_getD, List.getElem?_eq_none (by simp [Y.addD]; omega)]; simp; omega
end Abs.Y
