/- What functions of this program compute, as contracts over plain data, with what the proofs need of them. No condition. -/
import Derived.Test.YtailofgkfldepaaK0
import Derived.Test.YtailofgkfldepaaAbsOwn
set_option linter.all false
namespace Abs.Y
open Go Go.Proofs Abs
set_option maxRecDepth 100000

/-! ### Sets of numbers in order -/
def putZ : List Int → Int → List Int
  | [], n => [n]
  | x :: r, n => if x < n then x :: putZ r n else if x = n then x :: r else n :: x :: r
def Asc (l : List Int) : Prop := l.Pairwise (· < ·)
theorem mem_putZ {n : Int} : ∀ {l : List Int} {x : Int}, x ∈ putZ l n ↔ x = n ∨ x ∈ l
  | [], x => by simp [putZ]
  | y :: r, x => by
    simp only [putZ]
    split
    · simp only [List.mem_cons, mem_putZ (l := r)]
      constructor
      · rintro (h | h | h) <;> simp [h]
      · rintro (h | h | h) <;> simp [h]
    · split
      · rename_i h; subst h; simp
      · simp
theorem putZ_asc {n : Int} : ∀ {l : List Int}, Asc l → Asc (putZ l n)
  | [], _ => by simp [putZ, Asc]
  | y :: r, h => by
    have p := List.pairwise_cons.1 h
    simp only [putZ]
    split
    · rename_i h1
      refine List.pairwise_cons.2 ⟨fun z hz => ?_, putZ_asc p.2⟩
      rcases mem_putZ.1 hz with rfl | hz
      · exact h1
      · exact p.1 z hz
    · split
      · exact h
      · rename_i h1 h2
        refine List.pairwise_cons.2 ⟨fun z hz => ?_, h⟩
        rcases List.mem_cons.1 hz with rfl | hz
        · omega
        · have := p.1 z hz; omega
theorem putZ_at {n : Int} : ∀ {l : List Int} {k : Nat}, k ≤ l.length → (∀ j, j < k → l.getD j 0 < n) → (k < l.length → n ≤ l.getD k 0) →
    putZ l n = if k < l.length ∧ l.getD k 0 = n then l else l.take k ++ n :: l.drop k
  | [], k, hk, _, _ => by
    obtain rfl : k = 0 := by simpa using hk
    simp [putZ]
  | x :: r, 0, _, _, h => by
    have hx : n ≤ x := by simpa using h
    simp only [putZ]
    rw [if_neg (by omega)]
    by_cases e : x = n
    · simp [e]
    · simp [e]
  | x :: r, k + 1, hk, h1, h2 => by
    have hx : x < n := by simpa using h1 0 (by omega)
    have ih := putZ_at (l := r) (k := k) (by simpa using hk) (fun j hj => by simpa using h1 (j + 1) (by omega)) (fun hl => by simpa using h2 (by simpa using hl))
    simp only [putZ, if_pos hx, ih, List.length_cons, List.getD_cons_succ, Nat.succ_lt_succ_iff, List.take_succ_cons, List.drop_succ_cons]
    split <;> simp
theorem asc_uniq : ∀ {l1 l2 : List Int}, Asc l1 → Asc l2 → (∀ x, x ∈ l1 ↔ x ∈ l2) → l1 = l2
  | [], [], _, _, _ => rfl
  | [], y :: s, _, _, h => absurd ((h y).2 (by simp)) (by simp)
  | x :: r, [], _, _, h => absurd ((h x).1 (by simp)) (by simp)
  | x :: r, y :: s, g1, g2, h => by
    have p1 := List.pairwise_cons.1 g1
    have p2 := List.pairwise_cons.1 g2
    have hxy : x = y := by
      rcases List.mem_cons.1 ((h x).1 (by simp)) with e | hx
      · exact e
      · rcases List.mem_cons.1 ((h y).2 (by simp)) with e | hy
        · exact e.symm
        · have := p1.1 y hy; have := p2.1 x hx; omega
    subst hxy
    rw [asc_uniq (l1 := r) (l2 := s) p1.2 p2.2 fun z => ?_]
    constructor
    · intro hz
      rcases List.mem_cons.1 ((h z).1 (by simp [hz])) with rfl | h'
      · have := p1.1 z hz; omega
      · exact h'
    · intro hz
      rcases List.mem_cons.1 ((h z).2 (by simp [hz])) with rfl | h'
      · have := p2.1 z hz; omega
      · exact h'
def putAllZ (l xs : List Int) : List Int := xs.foldl putZ l
theorem putAllZ_spec : ∀ {xs l : List Int}, Asc l → Asc (putAllZ l xs) ∧ ∀ x, x ∈ putAllZ l xs ↔ x ∈ l ∨ x ∈ xs
  | [], l, h => ⟨h, by simp [putAllZ]⟩
  | y :: r, l, h => by
    obtain ⟨h1, h2⟩ := putAllZ_spec (xs := r) (putZ_asc (n := y) h)
    refine ⟨h1, fun x => ?_⟩
    show x ∈ putAllZ (putZ l y) r ↔ _
    rw [h2, mem_putZ]
    simp only [List.mem_cons]
    constructor
    · rintro ((h | h) | h) <;> simp [h]
    · rintro (h | h | h) <;> simp [h]
def sortZ (xs : List Int) : List Int := xs.mergeSort fun x y => decide (x ≤ y)
theorem sortZ_perm (xs : List Int) : (sortZ xs).Perm xs := List.mergeSort_perm xs _
theorem sortZ_asc {xs : List Int} (h : xs.Nodup) : Asc (sortZ xs) := by
  have h1 : (sortZ xs).Pairwise fun x y => decide (x ≤ y) = true := List.pairwise_mergeSort (fun a b c h1 h2 => by simp only [decide_eq_true_eq] at *; omega) (fun a b => by simp only [Bool.or_eq_true, decide_eq_true_eq]; omega) xs
  have h2 : (sortZ xs).Nodup := (sortZ_perm xs).nodup_iff.2 h
  refine (List.Pairwise.and h1 h2).imp fun {x y} ⟨h3, h4⟩ => ?_
  simp only [decide_eq_true_eq] at h3
  omega
theorem sort_put {xs : List Int} (h : xs.Nodup) : putAllZ [] xs = sortZ xs :=
  asc_uniq (putAllZ_spec List.Pairwise.nil).1 (sortZ_asc h) fun x => by
    rw [(putAllZ_spec List.Pairwise.nil).2, (sortZ_perm xs).mem_iff]; simp
end Abs.Y
