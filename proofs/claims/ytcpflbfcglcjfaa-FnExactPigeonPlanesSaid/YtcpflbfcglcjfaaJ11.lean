/- What functions of this program compute, as contracts over plain data, with what the proofs need of them. No condition. -/
import Derived.Test.YtcpflbfcglcjfaaL2
set_option linter.all false
namespace Abs
open Go Go.RowKit
theorem Wk.res0 {N : Nat} {S : List (Nat × AV)} {O : List (Nat × AO)} (r : Nat) : Wk N ⟨S, O⟩ ⟨wipeS r S, ins r (.res []) (wipeO r O)⟩ := fun Z β φ B M w0 a w hs => by
  let β' := upd β r (.slice none 0 0)
  let φ' := updF φ r (fun _ => False)
  have e1 : φ' r = fun _ => False := updF_eq
  have e3 : ∀ i, i ≠ r → φ' i = φ i := fun i h => updF_ne i h
  have b3 : ∀ i, i ≠ r → β' i = β i := fun i h => upd_ne i h
  have hk : ∀ i x, lk i (ins r (.res []) (wipeO r O)) = some x → (i = r ∧ x = .res []) ∨ (i ≠ r ∧ ∃ y, lk i O = some y ∧ x = y.wipe r) := fun i x hi => by
    rw [lk_ins] at hi
    split at hi
    · rename_i h3; cases hi; exact .inl ⟨h3, rfl⟩
    · rename_i h3
      obtain ⟨_, y, h5, h6⟩ := lk_wipeO hi
      exact .inr ⟨h3, y, h5, h6⟩
  have hm : ∀ g, free Z φ O g → g < w.heap.size → free Z φ' (ins r (.res []) (wipeO r O)) g ∧ w.heap[g]? = w.heap[g]? := fun g hg _ => ⟨⟨hg.1, fun i x hi hx => by
    rcases hk i x hi with ⟨rfl, rfl⟩ | ⟨h3, y, h5, rfl⟩
    · cases hx
    · rw [e3 i h3]; exact hg.2 i y h5 (by rw [← wipe_res (j := r)]; exact hx)⟩, rfl⟩
  refine ⟨β', φ', hs.nd.move hm, hs.size, fun i av hi => ?_, fun i x hi => ?_, fun i x g hi hg => ?_, fun i i' x x' g hi hi' hg hg' => ?_, hs.fr, hs.z⟩
  · obtain ⟨h3, h4⟩ := lk_wipeS hi
    rcases h4 with rfl | h4
    · exact .undef _
    · exact ((hs.slots i av h4).move hm).other b3 h3
  · rcases hk i x hi with ⟨rfl, rfl⟩ | ⟨h3, y, h5, rfl⟩
    · rw [e1]
      show OK β' _ w _ (upd β i _ i) _
      rw [upd_eq]
      exact .res rfl (fun g hg => hg.elim) (fun _ _ => False) (fun n hn => by simp at hn) (fun n g hg => hg) fun n n' g hg _ => hg.elim
    · rw [e3 i h3, b3 i h3]
      exact ((hs.objs i y h5).move hm (Nat.le_refl _) fun _ _ => rfl).wipe b3
  · rcases hk i x hi with ⟨rfl, rfl⟩ | ⟨h3, y, h5, rfl⟩
    · rw [e1] at hg; exact hg.elim
    · rw [e3 i h3] at hg; exact hs.own i y g h5 hg
  · rcases hk i x hi with ⟨rfl, rfl⟩ | ⟨h3, y, h5, rfl⟩ <;> rcases hk i' x' hi' with ⟨rfl, rfl⟩ | ⟨h3', y', h5', rfl⟩
    · rfl
    · rw [e1] at hg; exact hg.elim
    · rw [e1] at hg'; exact hg'.elim
    · rw [e3 i h3] at hg; rw [e3 i' h3'] at hg'; exact hs.disj i i' y y' g h5 h5' hg hg'
end Abs
namespace Abs.Y
open Go Go.Proofs Abs
open Nat renaming reduceEqDiff → zqa, reduceLT → zqb, reduceAdd → zqc, reduceMul → zqd, reduceSub → zqe, reduceLeDiff → zqf, reduceSubDiff → zqg, reduceBEq → zqh
open Bool renaming not_eq_true' → zba, not_eq_false' → zbb, and_eq_true → zbc, or_eq_true → zbd, or_eq_false_iff → zbe
open Int renaming ofNat_lt → zia, ofNat_le → zib, not_lt → zic, not_le → zid
open Decidable renaming not_not → zda
set_option maxRecDepth 100000

section
variable (n : Nat)
def bP : Nat → List PSt
  | 0 => []
  | j + 1 => hM ((n : Int) * (n + 1)) (cnfS n) n ((j : Int) + 1) (bP j) (n - 1)
def prP : Nat → List Int
  | 0 => []
  | j + 1 => prP j ++ [((bP n (j + 1)).length : Int) - 1]
def axP (i : Nat) : PSt := ⟨planI ((n : Int) * (n + 1)) ((cnfS n).getD i []), 1, i, 0, 0⟩
def bA : Nat → List PSt
  | 0 => bP n n
  | i + 1 => bA i ++ [axP n i]
def prA : Nat → List Int
  | 0 => prP n n
  | i + 1 => prA i ++ [((bA n i).length : Int)]
def allP : List Int := prA n (n + 1)
def bS : Nat → List PSt × Int
  | 0 => (bA n (n + 1), (allP n).getD 0 0)
  | k + 1 => ((bS k).1 ++ [⟨addP ((bS k).1.getD (bS k).2.toNat PSt.z).q ((bS k).1.getD ((allP n).getD (k + 1) 0).toNat PSt.z).q, 4, (bS k).2, (allP n).getD (k + 1) 0, 0⟩], (bS k).1.length)
def ppV : List PSt := (bS n (2 * n)).1
end
def sizB (u : Int) (s : PSt) : Bool := decide (s.q.co.length = u.toNat) && bdB s.q
def inB (x : Int) (l : List PSt) : Bool := decide (0 ≤ x) && decide (x < l.length)
def chkS (n : Nat) : Bool := (List.range (2 * n)).all fun k => inB (bS n k).2 (bS n k).1 && (inB ((allP n).getD (k + 1) 0) (bS n k).1 &&
  (sizB ((n : Int) * (n + 1)) ((bS n k).1.getD (bS n k).2.toNat PSt.z) && sizB ((n : Int) * (n + 1)) ((bS n k).1.getD ((allP n).getD (k + 1) 0).toNat PSt.z)))
theorem chkS_all : ∀ n : Nat, n < 4 → chkS n = true := by decide +kernel
theorem chkB_all : ∀ n : Nat, n < 4 → ∀ j : Nat, j < 3 → j < n → chkH n (j + 1) (bP n j) = true := by decide +kernel
theorem litsA : ∀ n : Nat, n < 4 → ∀ i : Nat, i < 4 → i < n + 1 → litsB ((n : Int) * (n + 1)) ((cnfS n).getD i []) = true ∧ i < (cnfS n).length := by decide +kernel
theorem len_all : ∀ n : Nat, n < 4 → (allP n).length = 2 * n + 1 ∧ ((bP n n).length ≤ 100 ∧ (ppV n).length ≤ 100) ∧ ∀ s ∈ ppV n, s.q.co.length ≤ 12 := by decide +kernel
theorem lenP_all : ∀ n : Nat, n < 4 → ∀ j : Nat, j < 4 → j ≤ n → (bP n j).length ≤ 100 := by decide +kernel
theorem prP_len (n : Nat) : ∀ j, (prP n j).length = j
  | 0 => rfl
  | j + 1 => by rw [prP, List.length_append, prP_len n j]; rfl
theorem prA_len (n : Nat) : ∀ i, (prA n i).length = n + i
  | 0 => prP_len n n
  | i + 1 => by rw [prA, List.length_append, prA_len n i]; rfl
theorem bA_len (n : Nat) : ∀ i, (bA n i).length = (bP n n).length + i
  | 0 => rfl
  | i + 1 => by rw [bA, List.length_append, bA_len n i]; rfl
theorem bS_len (n : Nat) : ∀ k, (bS n k).1.length = (bP n n).length + (n + 1) + k
  | 0 => bA_len n (n + 1)
  | k + 1 => by rw [bS]; simp only [List.length_append, bS_len n k, List.length_singleton]; omega
end Abs.Y
