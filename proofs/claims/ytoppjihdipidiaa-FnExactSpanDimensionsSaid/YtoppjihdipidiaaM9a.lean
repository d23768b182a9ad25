/- What functions of this program compute, as contracts over plain data, with what the proofs need of them. No condition. -/
import Derived.Test.YtoppjihdipidiaaAbsRow
import Derived.Test.YtoppjihdipidiaaV1
import Derived.Test.YtoppjihdipidiaaV2
set_option linter.all false
namespace Abs

def szL {α : Type} (f : α → Int → Int) : List α → Int → Int
  | [], left => left
  | x :: r, left => if f x left < 0 then -1 else szL f r (f x left)
def szS {α : Type} (f : α → Int → Int) (a : List α) (left : Int) : Int := if left - a.length < 0 then -1 else szL f a (left - a.length)
def szI (a : List Int) (left : Int) : Int := if left - a.length < 0 then -1 else left - a.length
def SzF {α : Type} (f : α → Int → Int) : Prop := ∀ x left, 0 ≤ left → f x left = -1 ∨ (0 ≤ f x left ∧ f x left ≤ left)
theorem szI_szF : SzF szI := fun x left h => by unfold szI; split <;> omega
theorem szL_szF {α : Type} {f : α → Int → Int} (hf : SzF f) : ∀ (l : List α) (left : Int), 0 ≤ left → szL f l left = -1 ∨ (0 ≤ szL f l left ∧ szL f l left ≤ left)
  | [], left, h => .inr ⟨h, Int.le_refl _⟩
  | x :: r, left, h => by
    simp only [szL]
    split
    · exact .inl rfl
    · rcases hf x left h with h1 | h1
      · omega
      · have := szL_szF hf r (f x left) h1.1; omega
theorem szS_szF {α : Type} {f : α → Int → Int} (hf : SzF f) : SzF (szS f) := fun x left h => by
  unfold szS
  split
  · exact .inl rfl
  · have := szL_szF hf x (left - x.length) (by omega); omega
theorem szL_each {α : Type} {f : α → Int → Int} (hf : SzF f) : ∀ (l : List α) (left : Int), 0 ≤ left → 0 ≤ szL f l left → ∀ x ∈ l, ∃ y, 0 ≤ y ∧ y ≤ left ∧ 0 ≤ f x y
  | [], _, _, _, x, hx => by cases hx
  | y :: r, left, h, h2, x, hx => by
    simp only [szL] at h2
    split at h2
    · omega
    · rename_i h3
      rcases List.mem_cons.1 hx with rfl | hx
      · exact ⟨left, h, Int.le_refl _, by omega⟩
      · obtain ⟨z, h4, h5, h6⟩ := szL_each hf r (f y left) (by omega) h2 x hx
        rcases hf y left h with h7 | h7
        · omega
        · exact ⟨z, h4, by omega, h6⟩
theorem szS_len {α : Type} {f : α → Int → Int} {a : List α} {left : Int} (h : 0 ≤ szS f a left) : (a.length : Int) ≤ left := by
  unfold szS at h; split at h <;> omega
theorem szS_each {α : Type} {f : α → Int → Int} (hf : SzF f) {a : List α} {left : Int} (h : 0 ≤ szS f a left) : ∀ x ∈ a, ∃ y, 0 ≤ y ∧ y ≤ left ∧ 0 ≤ f x y := by
  have hl := szS_len h
  unfold szS at h
  split at h
  · omega
  · intro x hx
    obtain ⟨y, h1, h2, h3⟩ := szL_each hf a _ (by omega) h x hx
    exact ⟨y, h1, by omega, h3⟩
theorem szI_len {a : List Int} {left : Int} (h : 0 ≤ szI a left) : (a.length : Int) ≤ left := by
  unfold szI at h; split at h <;> omega
end Abs

namespace Abs.Y
open Go Go.Proofs Abs
open Nat (reduceEqDiff reduceLT reduceAdd reduceMul reduceSub reduceLeDiff reduceSubDiff)
set_option maxRecDepth 100000

theorem szIntS_ok (a : List Int) (left : Int) (hl : a.length ≤ 9223372036854775807) (h1 : 0 ≤ left ∧ left ≤ 1048576) : Ctr Try.prog 124 [.ints a, .int .i64 left] false (.d (.int .i64 (szI a left))) [] := by
  refine Ctr.of (n := 12) (rs := [.tmp 4]) Try.func124 rfl rfl Try.ntmps124 rfl rfl (by kernel_rfl) Try.checked.mixed ?_
  simp (disch := first | omega | decide +kernel) only [D.ints, go_sem, reduceEqDiff, reduceLT, reduceAdd, reduceMul, reduceSub, ↓reduceIte, reduceCtorEq, reduceLeDiff, reduceSubDiff, Nat.reduceBEq]
  (repeat' (first | (refine gsel_split (fun h => ?_) (fun h => ?_) <;> (have h' := h) <;> (try simp only [decide_eq_true_eq, decide_eq_false_iff_not, Bool.not_eq_true', Bool.not_eq_false', bne_iff_ne, ne_eq, beq_iff_eq, bne_eq_false_iff_eq, beq_eq_false_iff_ne, Int.ofNat_lt, Int.ofNat_le, Int.not_lt, Int.not_le, Decidable.not_not, Bool.and_eq_true, Bool.or_eq_true, Bool.or_eq_false_iff, gt_iff_lt, ge_iff_le] at h') <;> simp (disch := first | omega | decide +kernel) only [h, go_sem, reduceEqDiff, reduceLT, reduceAdd, reduceMul, reduceSub, ↓reduceIte, reduceCtorEq, reduceLeDiff, reduceSubDiff, Nat.reduceBEq] <;> clear h) | ((first | refine hE _ _ ret_ne ?_ | refine hE _ _ exit_ne ?_) <;> try simp (disch := first | omega | decide +kernel) only [go_sem, reduceEqDiff, reduceLT, reduceAdd, reduceMul, reduceSub, ↓reduceIte, reduceCtorEq, reduceLeDiff, reduceSubDiff, Nat.reduceBEq]) | (refine hN _ ?_ ?_ Wk.kk) | (with_reducible refine And.intro ?_ ?_) | (with_reducible omega) | (exact ok_ints) | (exact cells_ints) | (exact no_mem) | (with_reducible exact plain_ints) | (refine le_maxLen ?_; omega) | (refine List.forall_mem_cons.2 ⟨?_, ?_⟩) | (simp only [go_sem, Nat.reduceAdd, Nat.reduceLT, List.mem_cons, List.not_mem_nil, forall_eq]; done)))
  · simp [szI, h', D.plain]
  · simp [szI, show ¬ (left - a.length < 0) by omega]
theorem toIntS_ok (a : List Int) (hl : a.length ≤ 4294967296) : Ctr Try.prog 37 [.ints a] false (.sl 0) [(0, .arr 3 1 (a.map (.int .i64)))] := by
  refine Ctr.of (n := 22) (rs := [.tmp 2]) Try.func37 rfl rfl Try.ntmps37 rfl rfl (by kernel_rfl) Try.checked.mixed ?_
  simp (disch := first | omega | decide +kernel) only [D.ints, go_sem, reduceEqDiff, reduceLT, reduceAdd, reduceMul, reduceSub, ↓reduceIte, reduceCtorEq, reduceLeDiff, reduceSubDiff, Nat.reduceBEq]
  refine ⟨by omega, ?_⟩
  rw [show List.replicate a.length (D.int .i64 0) = (List.replicate a.length (0 : Int)).map (D.int .i64) by simp]
  refine Ok.loopN [20, 19, 18, 17, 16, 15, 14, 13, 12, 11, 10, 9, 8, 7, 6, 5, 4, 1] (fun i _ => [(4, .d (.int .i64 (i : Nat)))]) (fun _ (cur : List Int) => [(7, .arr 3 1 (List.map (D.int .i64) cur))]) a.length
    (fun i cur => cur.length = a.length ∧ ∀ j, j < i → cur.getD j 0 = a.getD j 0) (List.replicate a.length 0) ⟨by simp, by simp⟩ (Wk.kk) ?_
  rintro R i cur hN hE hi ⟨hcl, hcur⟩
  simp (disch := first | omega | decide +kernel) only [go_sem, reduceEqDiff, reduceLT, reduceAdd, reduceMul, reduceSub, ↓reduceIte, reduceCtorEq, reduceLeDiff, reduceSubDiff, Nat.reduceBEq]
  (repeat' (first | (refine gsel_split (fun h => ?_) (fun h => ?_) <;> (have h' := h) <;> (try simp only [decide_eq_true_eq, decide_eq_false_iff_not, Bool.not_eq_true', Bool.not_eq_false', bne_iff_ne, ne_eq, beq_iff_eq, bne_eq_false_iff_eq, beq_eq_false_iff_ne, Int.ofNat_lt, Int.ofNat_le, Int.not_lt, Int.not_le, Decidable.not_not, Bool.and_eq_true, Bool.or_eq_true, Bool.or_eq_false_iff, gt_iff_lt, ge_iff_le] at h') <;> simp (disch := first | omega | decide +kernel) only [h, go_sem, reduceEqDiff, reduceLT, reduceAdd, reduceMul, reduceSub, ↓reduceIte, reduceCtorEq, reduceLeDiff, reduceSubDiff, Nat.reduceBEq] <;> clear h) | ((first | refine hE _ _ ret_ne ?_ | refine hE _ _ exit_ne ?_) <;> try simp (disch := first | omega | decide +kernel) only [go_sem, reduceEqDiff, reduceLT, reduceAdd, reduceMul, reduceSub, ↓reduceIte, reduceCtorEq, reduceLeDiff, reduceSubDiff, Nat.reduceBEq]) | (refine hN _ ?_ ?_ Wk.kk) | (with_reducible refine And.intro ?_ ?_) | (with_reducible omega) | (exact ok_ints) | (exact cells_ints) | (exact no_mem) | (with_reducible exact plain_ints) | (refine le_maxLen ?_; omega) | (refine List.forall_mem_cons.2 ⟨?_, ?_⟩) | (simp only [go_sem, Nat.reduceAdd, Nat.reduceLT, List.mem_cons, List.not_mem_nil, forall_eq]; done)))
  · refine hN (cur.set i (a.getD i 0)) _ h' ⟨by simp [hcl], fun j hj => ?_⟩ (Wk.kk)
    rw [set_getDz 0 _ _ _ _ (by omega)]
    by_cases e : j = i
    · subst e; simp
    · rw [if_neg e]; exact hcur j (by omega)
  · obtain rfl : cur = a := ext_getDz 0 hcl fun j hj => hcur j (by omega)
    exact ret_sl 7 rfl rfl plain_ints
theorem eqIntS_ok (a b : List Int) (hl : a.length ≤ 4294967296) : Ctr Try.prog 39 [.ints a, .ints b] false (.d (.bool (decide (a = b)))) [] := by
  refine Ctr.of (n := 26) (rs := [.tmp 4]) Try.func39 rfl rfl Try.ntmps39 rfl rfl (by kernel_rfl) Try.checked.mixed ?_
  simp (disch := first | omega | decide +kernel) only [D.ints, go_sem, reduceEqDiff, reduceLT, reduceAdd, reduceMul, reduceSub, ↓reduceIte, reduceCtorEq, reduceLeDiff, reduceSubDiff, Nat.reduceBEq]
  (repeat' (first | (refine gsel_split (fun h => ?_) (fun h => ?_) <;> (have h' := h) <;> (try simp only [decide_eq_true_eq, decide_eq_false_iff_not, Bool.not_eq_true', Bool.not_eq_false', bne_iff_ne, ne_eq, beq_iff_eq, bne_eq_false_iff_eq, beq_eq_false_iff_ne, Int.ofNat_lt, Int.ofNat_le, Int.not_lt, Int.not_le, Decidable.not_not, Bool.and_eq_true, Bool.or_eq_true, Bool.or_eq_false_iff, gt_iff_lt, ge_iff_le] at h') <;> simp (disch := first | omega | decide +kernel) only [h, go_sem, reduceEqDiff, reduceLT, reduceAdd, reduceMul, reduceSub, ↓reduceIte, reduceCtorEq, reduceLeDiff, reduceSubDiff, Nat.reduceBEq] <;> clear h) | ((first | refine hE _ _ ret_ne ?_ | refine hE _ _ exit_ne ?_) <;> try simp (disch := first | omega | decide +kernel) only [go_sem, reduceEqDiff, reduceLT, reduceAdd, reduceMul, reduceSub, ↓reduceIte, reduceCtorEq, reduceLeDiff, reduceSubDiff, Nat.reduceBEq]) | (refine hN _ ?_ ?_ Wk.kk) | (with_reducible refine And.intro ?_ ?_) | (with_reducible omega) | (exact ok_ints) | (exact cells_ints) | (exact no_mem) | (with_reducible exact plain_ints) | (refine le_maxLen ?_; omega) | (refine List.forall_mem_cons.2 ⟨?_, ?_⟩) | (simp only [go_sem, Nat.reduceAdd, Nat.reduceLT, List.mem_cons, List.not_mem_nil, forall_eq]; done)))
  · have : ¬ a = b := by rintro rfl; simp at h'
    simp [this, D.plain]
  refine Ok.loopC [25, 24, 23, 22, 21, 20, 19, 18, 17, 16, 15, 14, 13, 12, 11, 10, 9, 8, 7, 6, 5, 4, 3, 2] (fun i => [(5, .d (.int .i64 (i : Nat)))]) a.length (fun i => ∀ j, j < i → a.getD j 0 = b.getD j 0) (by simp) (Wk.kk) ?_
  intro R i hN hE hi hI
  simp (disch := first | omega | decide +kernel) only [go_sem, reduceEqDiff, reduceLT, reduceAdd, reduceMul, reduceSub, ↓reduceIte, reduceCtorEq, reduceLeDiff, reduceSubDiff, Nat.reduceBEq]
  (repeat' (first | (refine gsel_split (fun h => ?_) (fun h => ?_) <;> (have h' := h) <;> (try simp only [decide_eq_true_eq, decide_eq_false_iff_not, Bool.not_eq_true', Bool.not_eq_false', bne_iff_ne, ne_eq, beq_iff_eq, bne_eq_false_iff_eq, beq_eq_false_iff_ne, Int.ofNat_lt, Int.ofNat_le, Int.not_lt, Int.not_le, Decidable.not_not, Bool.and_eq_true, Bool.or_eq_true, Bool.or_eq_false_iff, gt_iff_lt, ge_iff_le] at h') <;> simp (disch := first | omega | decide +kernel) only [h, go_sem, reduceEqDiff, reduceLT, reduceAdd, reduceMul, reduceSub, ↓reduceIte, reduceCtorEq, reduceLeDiff, reduceSubDiff, Nat.reduceBEq] <;> clear h) | ((first | refine hE _ _ ret_ne ?_ | refine hE _ _ exit_ne ?_) <;> try simp (disch := first | omega | decide +kernel) only [go_sem, reduceEqDiff, reduceLT, reduceAdd, reduceMul, reduceSub, ↓reduceIte, reduceCtorEq, reduceLeDiff, reduceSubDiff, Nat.reduceBEq]) | (refine hN _ ?_ ?_ Wk.kk) | (with_reducible refine And.intro ?_ ?_) | (with_reducible omega) | (exact ok_ints) | (exact cells_ints) | (exact no_mem) | (with_reducible exact plain_ints) | (refine le_maxLen ?_; omega) | (refine List.forall_mem_cons.2 ⟨?_, ?_⟩) | (simp only [go_sem, Nat.reduceAdd, Nat.reduceLT, List.mem_cons, List.not_mem_nil, forall_eq]; done)))
  · rename_i h1 h2
    have : ¬ a = b := by rintro rfl; exact h' rfl
    simp [this, D.plain]
  · exact all_succ hI h'
  · rename_i h1
    have : a = b := ext_getDz 0 (by omega) fun j hj => hI j (by omega)
    simp [this, D.plain]

theorem szIntSS_ok (a : List (List Int)) (left : Int) (hl : a.length ≤ 9223372036854775807) (hx : ∀ x ∈ a, x.length ≤ 9223372036854775807) (h1 : 0 ≤ left ∧ left ≤ 1048576) : Ctr Try.prog 56 [.slice (a.map D.ints), .int .i64 left] false (.d (.int .i64 (szS szI a left))) [] := by
  refine Ctr.of (n := 27) (rs := [.tmp 4]) Try.func56 rfl rfl Try.ntmps56 rfl rfl (by kernel_rfl) Try.checked.mixed ?_
  simp (disch := first | omega | decide +kernel) only [go_sem, reduceEqDiff, reduceLT, reduceAdd, reduceMul, reduceSub, ↓reduceIte, reduceCtorEq, reduceLeDiff, reduceSubDiff, Nat.reduceBEq]
  (repeat' (first | (refine gsel_split (fun h => ?_) (fun h => ?_) <;> (have h' := h) <;> (try simp only [decide_eq_true_eq, decide_eq_false_iff_not, Bool.not_eq_true', Bool.not_eq_false', bne_iff_ne, ne_eq, beq_iff_eq, bne_eq_false_iff_eq, beq_eq_false_iff_ne, Int.ofNat_lt, Int.ofNat_le, Int.not_lt, Int.not_le, Decidable.not_not, Bool.and_eq_true, Bool.or_eq_true, Bool.or_eq_false_iff, gt_iff_lt, ge_iff_le] at h') <;> simp (disch := first | omega | decide +kernel) only [h, go_sem, reduceEqDiff, reduceLT, reduceAdd, reduceMul, reduceSub, ↓reduceIte, reduceCtorEq, reduceLeDiff, reduceSubDiff, Nat.reduceBEq] <;> clear h) | ((first | refine hE _ _ ret_ne ?_ | refine hE _ _ exit_ne ?_) <;> try simp (disch := first | omega | decide +kernel) only [go_sem, reduceEqDiff, reduceLT, reduceAdd, reduceMul, reduceSub, ↓reduceIte, reduceCtorEq, reduceLeDiff, reduceSubDiff, Nat.reduceBEq]) | (refine hN _ ?_ ?_ Wk.kk) | (with_reducible refine And.intro ?_ ?_) | (with_reducible omega) | (exact ok_ints) | (exact cells_ints) | (exact no_mem) | (with_reducible exact plain_ints) | (refine le_maxLen ?_; omega) | (refine List.forall_mem_cons.2 ⟨?_, ?_⟩) | (simp only [go_sem, Nat.reduceAdd, Nat.reduceLT, List.mem_cons, List.not_mem_nil, forall_eq]; done)))
  · simp [szS, h', D.plain]
  rw [szS, if_neg (by omega)]
  refine Ok.loopN [25, 24, 23, 22, 21, 20, 19, 18, 17, 16, 15, 14, 13, 12, 11, 10, 9, 8, 7, 6, 5, 4, 3, 2, 1] (fun i l => [(5, .d (.int .i64 (i : Nat))), (1, .d (.int .i64 l))]) (fun _ _ => []) a.length
    (fun i (l : Int) => 0 ≤ l ∧ l ≤ 1048576 ∧ szL szI a (left - a.length) = szL szI (a.drop i) l) (left - a.length) ⟨by omega, by omega, by simp⟩ (Wk.kk) ?_
  rintro R i l hN hE hi ⟨h3, h4, h5⟩
  simp (disch := first | omega | decide +kernel) only [go_sem, reduceEqDiff, reduceLT, reduceAdd, reduceMul, reduceSub, ↓reduceIte, reduceCtorEq, reduceLeDiff, reduceSubDiff, Nat.reduceBEq]
  by_cases hlt : i < a.length
  · have he := hx _ (getD_mem (z := ([] : List Int)) hlt)
    have hf := szI_szF (a.getD i ([] : List Int)) l h3
    rw [drop_cons ([] : List Int) a i hlt, szL] at h5
    have hc := szIntS_ok (a.getD i []) l he ⟨h3, h4⟩
    (repeat' (first | (refine gsel_split (fun h => ?_) (fun h => ?_) <;> (have h' := h) <;> (try simp only [decide_eq_true_eq, decide_eq_false_iff_not, Bool.not_eq_true', Bool.not_eq_false', bne_iff_ne, ne_eq, beq_iff_eq, bne_eq_false_iff_eq, beq_eq_false_iff_ne, Int.ofNat_lt, Int.ofNat_le, Int.not_lt, Int.not_le, Decidable.not_not, Bool.and_eq_true, Bool.or_eq_true, Bool.or_eq_false_iff, gt_iff_lt, ge_iff_le] at h') <;> simp (disch := first | omega | decide +kernel) only [h, go_sem, reduceEqDiff, reduceLT, reduceAdd, reduceMul, reduceSub, ↓reduceIte, reduceCtorEq, reduceLeDiff, reduceSubDiff, Nat.reduceBEq] <;> clear h) | ((first | refine callX_new (hc) rfl (by decide) ?_ | refine callY_new (hc) rfl ?_ | refine hE _ _ ret_ne ?_ | refine hE _ _ exit_ne ?_) <;> try simp (disch := first | omega | decide +kernel) only [go_sem, reduceEqDiff, reduceLT, reduceAdd, reduceMul, reduceSub, ↓reduceIte, reduceCtorEq, reduceLeDiff, reduceSubDiff, Nat.reduceBEq]) | (refine hN _ ?_ ?_ Wk.kk) | (with_reducible refine And.intro ?_ ?_) | (with_reducible omega) | (exact ok_ints) | (exact cells_ints) | (exact no_mem) | (with_reducible exact plain_ints) | (refine le_maxLen ?_; omega) | (refine List.forall_mem_cons.2 ⟨?_, ?_⟩) | (simp only [go_sem, Nat.reduceAdd, Nat.reduceLT, List.mem_cons, List.not_mem_nil, forall_eq]; done)))
    · rw [h5, if_pos h']
    · rw [if_neg (by omega)] at h5
      exact hN _ _ hlt ⟨by omega, by omega, h5⟩ (Wk.kk)
  · rw [List.drop_eq_nil_of_le (by omega), szL] at h5
    (repeat' (first | (refine gsel_split (fun h => ?_) (fun h => ?_) <;> (have h' := h) <;> (try simp only [decide_eq_true_eq, decide_eq_false_iff_not, Bool.not_eq_true', Bool.not_eq_false', bne_iff_ne, ne_eq, beq_iff_eq, bne_eq_false_iff_eq, beq_eq_false_iff_ne, Int.ofNat_lt, Int.ofNat_le, Int.not_lt, Int.not_le, Decidable.not_not, Bool.and_eq_true, Bool.or_eq_true, Bool.or_eq_false_iff, gt_iff_lt, ge_iff_le] at h') <;> simp (disch := first | omega | decide +kernel) only [h, go_sem, reduceEqDiff, reduceLT, reduceAdd, reduceMul, reduceSub, ↓reduceIte, reduceCtorEq, reduceLeDiff, reduceSubDiff, Nat.reduceBEq] <;> clear h) | ((first | refine hE _ _ ret_ne ?_ | refine hE _ _ exit_ne ?_) <;> try simp (disch := first | omega | decide +kernel) only [go_sem, reduceEqDiff, reduceLT, reduceAdd, reduceMul, reduceSub, ↓reduceIte, reduceCtorEq, reduceLeDiff, reduceSubDiff, Nat.reduceBEq]) | (refine hN _ ?_ ?_ Wk.kk) | (with_reducible refine And.intro ?_ ?_) | (with_reducible omega) | (exact ok_ints) | (exact cells_ints) | (exact no_mem) | (with_reducible exact plain_ints) | (refine le_maxLen ?_; omega) | (refine List.forall_mem_cons.2 ⟨?_, ?_⟩) | (simp only [go_sem, Nat.reduceAdd, Nat.reduceLT, List.mem_cons, List.not_mem_nil, forall_eq]; done)))
    · rw [h5]
theorem toIntSS_ok (a : List (List Int)) (hl : a.length ≤ 4294967296) (hx : ∀ x ∈ a, x.length ≤ 4294967296) : Ctr Try.prog 61 [.slice (a.map D.ints)] true (.sl 0) [(0, .arr 47 1 (a.map D.ints))] := by
  refine Ctr.of (n := 23) (rs := [.tmp 2]) Try.func61 rfl rfl Try.ntmps61 rfl rfl (by kernel_rfl) Try.checked.mixed ?_
  simp (disch := first | omega | decide +kernel) only [go_sem, reduceEqDiff, reduceLT, reduceAdd, reduceMul, reduceSub, ↓reduceIte, reduceCtorEq, reduceLeDiff, reduceSubDiff, Nat.reduceBEq]
  refine ⟨by omega, ?_⟩
  rw [show List.replicate a.length (D.slice []) = (List.replicate a.length (([] : List Int) : (List Int))).map D.ints by simp [D.ints]]
  refine Ok.loopN [21, 20, 19, 18, 17, 16, 15, 14, 13, 12, 11, 10, 9, 8, 7, 6, 5, 4, 1] (fun i _ => [(4, .d (.int .i64 (i : Nat)))]) (fun _ (cur : List (List Int)) => [(7, .arr 47 1 (List.map D.ints cur))]) a.length
    (fun i cur => cur.length = a.length ∧ ∀ j, j < i → cur.getD j ([] : List Int) = a.getD j ([] : List Int)) (List.replicate a.length ([] : List Int)) ⟨by simp, by simp⟩ (Wk.kk) ?_
  rintro R i cur hN hE hi ⟨hcl, hcur⟩
  simp (disch := first | omega | decide +kernel) only [go_sem, reduceEqDiff, reduceLT, reduceAdd, reduceMul, reduceSub, ↓reduceIte, reduceCtorEq, reduceLeDiff, reduceSubDiff, Nat.reduceBEq]
  by_cases hlt : i < a.length
  · have he := hx _ (getD_mem (z := ([] : List Int)) hlt)
    have hlc : i < cur.length := by omega
    have hc := toIntS_ok (a.getD i []) he
    (repeat' (first | (refine gsel_split (fun h => ?_) (fun h => ?_) <;> (have h' := h) <;> (try simp only [decide_eq_true_eq, decide_eq_false_iff_not, Bool.not_eq_true', Bool.not_eq_false', bne_iff_ne, ne_eq, beq_iff_eq, bne_eq_false_iff_eq, beq_eq_false_iff_ne, Int.ofNat_lt, Int.ofNat_le, Int.not_lt, Int.not_le, Decidable.not_not, Bool.and_eq_true, Bool.or_eq_true, Bool.or_eq_false_iff, gt_iff_lt, ge_iff_le] at h') <;> simp (disch := first | omega | decide +kernel) only [h, go_sem, reduceEqDiff, reduceLT, reduceAdd, reduceMul, reduceSub, ↓reduceIte, reduceCtorEq, reduceLeDiff, reduceSubDiff, Nat.reduceBEq] <;> clear h) | ((first | refine callX_new (hc) rfl (by decide) ?_ | refine callY_new (hc) rfl ?_ | refine callX_shared (hc) rfl (by decide) ?_ | refine callY_shared (hc) rfl ?_ | refine hE _ _ ret_ne ?_ | refine hE _ _ exit_ne ?_) <;> try simp (disch := first | omega | decide +kernel) only [go_sem, reduceEqDiff, reduceLT, reduceAdd, reduceMul, reduceSub, ↓reduceIte, reduceCtorEq, reduceLeDiff, reduceSubDiff, Nat.reduceBEq]) | (refine hN _ ?_ ?_ Wk.kk) | (with_reducible refine And.intro ?_ ?_) | (with_reducible omega) | (exact ok_ints) | (exact cells_ints) | (exact no_mem) | (with_reducible exact plain_ints) | (refine le_maxLen ?_; omega) | (refine List.forall_mem_cons.2 ⟨?_, ?_⟩) | (simp only [go_sem, Nat.reduceAdd, Nat.reduceLT, List.mem_cons, List.not_mem_nil, forall_eq]; done)))
    all_goals (first | (simp [D.ints, D.step, D.cells, D.ok, D.atom, D.isAgg]; done) | skip)
    · refine hN (cur.set i (a.getD i ([] : List Int))) _ hlt ⟨by simp [hcl], fun j hj => ?_⟩ (by refine Wk.auto ?_ ?_ <;> simp [extraK, lk, killL, St.kill, wipeO, wipeS, AV.has, AV.hasL, AO.wipe, List.map_set, updSt, insL, dropS, ins, D.ints])
      rw [set_getDz ([] : List Int) _ _ _ _ hlc]
      by_cases e : j = i
      · subst e; simp
      · rw [if_neg e]; exact hcur j (by omega)
  · (repeat' (first | (refine gsel_split (fun h => ?_) (fun h => ?_) <;> (have h' := h) <;> (try simp only [decide_eq_true_eq, decide_eq_false_iff_not, Bool.not_eq_true', Bool.not_eq_false', bne_iff_ne, ne_eq, beq_iff_eq, bne_eq_false_iff_eq, beq_eq_false_iff_ne, Int.ofNat_lt, Int.ofNat_le, Int.not_lt, Int.not_le, Decidable.not_not, Bool.and_eq_true, Bool.or_eq_true, Bool.or_eq_false_iff, gt_iff_lt, ge_iff_le] at h') <;> simp (disch := first | omega | decide +kernel) only [h, go_sem, reduceEqDiff, reduceLT, reduceAdd, reduceMul, reduceSub, ↓reduceIte, reduceCtorEq, reduceLeDiff, reduceSubDiff, Nat.reduceBEq] <;> clear h) | ((first | refine hE _ _ ret_ne ?_ | refine hE _ _ exit_ne ?_) <;> try simp (disch := first | omega | decide +kernel) only [go_sem, reduceEqDiff, reduceLT, reduceAdd, reduceMul, reduceSub, ↓reduceIte, reduceCtorEq, reduceLeDiff, reduceSubDiff, Nat.reduceBEq]) | (refine hN _ ?_ ?_ Wk.kk) | (with_reducible refine And.intro ?_ ?_) | (with_reducible omega) | (exact ok_ints) | (exact cells_ints) | (exact no_mem) | (with_reducible exact plain_ints) | (refine le_maxLen ?_; omega) | (refine List.forall_mem_cons.2 ⟨?_, ?_⟩) | (simp only [go_sem, Nat.reduceAdd, Nat.reduceLT, List.mem_cons, List.not_mem_nil, forall_eq]; done)))
    · obtain rfl : cur = a := ext_getDz ([] : List Int) hcl fun j hj => hcur j (by omega)
      exact ret_sls 7 rfl rfl
theorem eqIntSS_ok (a b : List (List Int)) (hl : a.length ≤ 4294967296) (hx : ∀ x ∈ a, x.length ≤ 4294967296) : Ctr Try.prog 67 [.slice (a.map D.ints), .slice (b.map D.ints)] false (.d (.bool (decide (a = b)))) [] := by
  refine Ctr.of (n := 27) (rs := [.tmp 4]) Try.func67 rfl rfl Try.ntmps67 rfl rfl (by kernel_rfl) Try.checked.mixed ?_
  simp (disch := first | omega | decide +kernel) only [go_sem, reduceEqDiff, reduceLT, reduceAdd, reduceMul, reduceSub, ↓reduceIte, reduceCtorEq, reduceLeDiff, reduceSubDiff, Nat.reduceBEq]
  (repeat' (first | (refine gsel_split (fun h => ?_) (fun h => ?_) <;> (have h' := h) <;> (try simp only [decide_eq_true_eq, decide_eq_false_iff_not, Bool.not_eq_true', Bool.not_eq_false', bne_iff_ne, ne_eq, beq_iff_eq, bne_eq_false_iff_eq, beq_eq_false_iff_ne, Int.ofNat_lt, Int.ofNat_le, Int.not_lt, Int.not_le, Decidable.not_not, Bool.and_eq_true, Bool.or_eq_true, Bool.or_eq_false_iff, gt_iff_lt, ge_iff_le] at h') <;> simp (disch := first | omega | decide +kernel) only [h, go_sem, reduceEqDiff, reduceLT, reduceAdd, reduceMul, reduceSub, ↓reduceIte, reduceCtorEq, reduceLeDiff, reduceSubDiff, Nat.reduceBEq] <;> clear h) | ((first | refine hE _ _ ret_ne ?_ | refine hE _ _ exit_ne ?_) <;> try simp (disch := first | omega | decide +kernel) only [go_sem, reduceEqDiff, reduceLT, reduceAdd, reduceMul, reduceSub, ↓reduceIte, reduceCtorEq, reduceLeDiff, reduceSubDiff, Nat.reduceBEq]) | (refine hN _ ?_ ?_ Wk.kk) | (with_reducible refine And.intro ?_ ?_) | (with_reducible omega) | (exact ok_ints) | (exact cells_ints) | (exact no_mem) | (with_reducible exact plain_ints) | (refine le_maxLen ?_; omega) | (refine List.forall_mem_cons.2 ⟨?_, ?_⟩) | (simp only [go_sem, Nat.reduceAdd, Nat.reduceLT, List.mem_cons, List.not_mem_nil, forall_eq]; done)))
  · have : ¬ a = b := by rintro rfl; simp at h'
    simp [this, D.plain]
  refine Ok.loopC [26, 25, 24, 23, 22, 21, 20, 19, 18, 17, 16, 15, 14, 13, 12, 11, 10, 9, 8, 7, 6, 5, 4, 3, 2] (fun i => [(5, .d (.int .i64 (i : Nat)))]) a.length (fun i => ∀ j, j < i → a.getD j ([] : List Int) = b.getD j ([] : List Int)) (by simp) (Wk.kk) ?_
  intro R i hN hE hi hI
  simp (disch := first | omega | decide +kernel) only [go_sem, reduceEqDiff, reduceLT, reduceAdd, reduceMul, reduceSub, ↓reduceIte, reduceCtorEq, reduceLeDiff, reduceSubDiff, Nat.reduceBEq]
  by_cases hlt : i < a.length
  · have he := hx _ (getD_mem (z := ([] : List Int)) hlt)
    have hc := eqIntS_ok (a.getD i []) (b.getD i []) he
    (repeat' (first | (refine gsel_split (fun h => ?_) (fun h => ?_) <;> (have h' := h) <;> (try simp only [decide_eq_true_eq, decide_eq_false_iff_not, Bool.not_eq_true', Bool.not_eq_false', bne_iff_ne, ne_eq, beq_iff_eq, bne_eq_false_iff_eq, beq_eq_false_iff_ne, Int.ofNat_lt, Int.ofNat_le, Int.not_lt, Int.not_le, Decidable.not_not, Bool.and_eq_true, Bool.or_eq_true, Bool.or_eq_false_iff, gt_iff_lt, ge_iff_le] at h') <;> simp (disch := first | omega | decide +kernel) only [h, go_sem, reduceEqDiff, reduceLT, reduceAdd, reduceMul, reduceSub, ↓reduceIte, reduceCtorEq, reduceLeDiff, reduceSubDiff, Nat.reduceBEq] <;> clear h) | ((first | refine callX_new (hc) rfl (by decide) ?_ | refine callY_new (hc) rfl ?_ | refine hE _ _ ret_ne ?_ | refine hE _ _ exit_ne ?_) <;> try simp (disch := first | omega | decide +kernel) only [go_sem, reduceEqDiff, reduceLT, reduceAdd, reduceMul, reduceSub, ↓reduceIte, reduceCtorEq, reduceLeDiff, reduceSubDiff, Nat.reduceBEq]) | (refine hN _ ?_ ?_ Wk.kk) | (with_reducible refine And.intro ?_ ?_) | (with_reducible omega) | (exact ok_ints) | (exact cells_ints) | (exact no_mem) | (with_reducible exact plain_ints) | (refine le_maxLen ?_; omega) | (refine List.forall_mem_cons.2 ⟨?_, ?_⟩) | (simp only [go_sem, Nat.reduceAdd, Nat.reduceLT, List.mem_cons, List.not_mem_nil, forall_eq]; done)))
    · have : ¬ a = b := by rintro rfl; exact h' rfl
      simp [this, D.plain]
    · exact all_succ hI h'
  · (repeat' (first | (refine gsel_split (fun h => ?_) (fun h => ?_) <;> (have h' := h) <;> (try simp only [decide_eq_true_eq, decide_eq_false_iff_not, Bool.not_eq_true', Bool.not_eq_false', bne_iff_ne, ne_eq, beq_iff_eq, bne_eq_false_iff_eq, beq_eq_false_iff_ne, Int.ofNat_lt, Int.ofNat_le, Int.not_lt, Int.not_le, Decidable.not_not, Bool.and_eq_true, Bool.or_eq_true, Bool.or_eq_false_iff, gt_iff_lt, ge_iff_le] at h') <;> simp (disch := first | omega | decide +kernel) only [h, go_sem, reduceEqDiff, reduceLT, reduceAdd, reduceMul, reduceSub, ↓reduceIte, reduceCtorEq, reduceLeDiff, reduceSubDiff, Nat.reduceBEq] <;> clear h) | ((first | refine hE _ _ ret_ne ?_ | refine hE _ _ exit_ne ?_) <;> try simp (disch := first | omega | decide +kernel) only [go_sem, reduceEqDiff, reduceLT, reduceAdd, reduceMul, reduceSub, ↓reduceIte, reduceCtorEq, reduceLeDiff, reduceSubDiff, Nat.reduceBEq]) | (refine hN _ ?_ ?_ Wk.kk) | (with_reducible refine And.intro ?_ ?_) | (with_reducible omega) | (exact ok_ints) | (exact cells_ints) | (exact no_mem) | (with_reducible exact plain_ints) | (refine le_maxLen ?_; omega) | (refine List.forall_mem_cons.2 ⟨?_, ?_⟩) | (simp only [go_sem, Nat.reduceAdd, Nat.reduceLT, List.mem_cons, List.not_mem_nil, forall_eq]; done)))
    · have : a = b := ext_getDz ([] : List Int) (by omega) fun j hj => hI j (by omega)
      simp [this, D.plain]
end Abs.Y

namespace Abs.Y
open Go Go.Proofs Abs
open Nat (reduceEqDiff reduceLT reduceAdd reduceMul reduceSub reduceLeDiff reduceSubDiff)
set_option maxRecDepth 100000

theorem map_ex {α : Type} (f : α → D) {es : List D} {R : D → Prop} {Q : α → Prop} (h : ∀ e ∈ es, R e) (hR : ∀ e, R e → ∃ x, e = f x ∧ Q x) : ∃ xs : List α, es = xs.map f ∧ ∀ x ∈ xs, Q x := by
  induction es with
  | nil => exact ⟨[], rfl, by simp⟩
  | cons e r ih =>
    obtain ⟨x, hx, hq⟩ := hR e (h e (by simp))
    obtain ⟨xs, hxs, hqs⟩ := ih fun e he => h e (by simp [he])
    exact ⟨x :: xs, by simp [hx, hxs], fun y hy => by
      rcases List.mem_cons.1 hy with rfl | hy
      · exact hq
      · exact hqs y hy⟩
theorem maxLen_eq : maxLen = 9223372036854775807 := rfl
theorem r_ints {x : D} (h : isSl isI64 x) : ∃ a : List Int, x = D.ints a ∧ a.length ≤ 9223372036854775807 := by
  obtain ⟨es, rfl, hl, he⟩ := h
  obtain ⟨a, rfl, _⟩ := map_ex (D.int .i64) (Q := fun _ => True) he fun e ⟨n, hn, _⟩ => ⟨n, hn, trivial⟩
  exact ⟨a, rfl, by rw [maxLen_eq] at hl; simpa using hl⟩
theorem r_intss {x : D} (h : isSl (isSl isI64) x) : ∃ a : List (List Int), x = .slice (a.map D.ints) ∧ a.length ≤ 9223372036854775807 ∧ ∀ y ∈ a, y.length ≤ 9223372036854775807 := by
  obtain ⟨es, rfl, hl, he⟩ := h
  obtain ⟨a, rfl, ha⟩ := map_ex D.ints he fun e h => r_ints h
  exact ⟨a, rfl, by rw [maxLen_eq] at hl; simpa using hl, ha⟩
end Abs.Y

namespace Abs
open Go Go.Proofs
theorem ret_cbd {P : Program} {a j u : Nat} {t e : TypeId} {cells : List AV} {ds : List D} {y : D} {st : St} (h : lk a st.s = some (.p j 0)) (h' : lk u st.s = some (.d y)) (hj : lk j st.o = some (.box e cells)) (hag : aggT P t = true) (hn : P.cellsOf t = cells.length) (hd : allD cells = some ds)
    (hu : (P.underlying t).isSome = true) (hp : (D.agg ds).plain = true) (hy : y.plain = true) : retQ P [.cell a t, .tmp u] false (.tup [.d (.agg ds), .d y]) [] .ret st := by
  refine .inl ?_
  have hl : (lk a st.s).bind (loadV P st.o t) = some (0 + P.cellsOf t ≤ cells.length ∧ (P.underlying t).isSome = true, .d (.agg ds)) := by
    rw [h, Option.bind_some, loadV, hj]
    simp only [hag, if_true, List.drop_zero, hn, List.take_length, hd]
  simp only [retO, resV, hl, h']
  exact ⟨⟨hu, ⟨by omega, hu⟩, trivial⟩, .nil rfl, .inr ⟨⟨hp, hy, trivial⟩, trivial⟩⟩
end Abs
namespace Abs.Y
open Go Go.Proofs Abs
open Nat (reduceEqDiff reduceLT reduceAdd reduceMul reduceSub reduceLeDiff reduceSubDiff)
set_option maxRecDepth 100000

structure Pl where
  co : List Int
  bd : Int
deriving DecidableEq
@[reducible] def D.pl (p : Pl) : D := .agg [.ints p.co, .int .i64 p.bd]
def plS (p : Pl) (l : Int) : Pl := if 0 < l then ⟨p.co.set (l - 1).toNat 1, p.bd⟩ else ⟨p.co.set (0 - l - 1).toNat (-1), p.bd - 1⟩
def planI (u : Int) (c : List Int) : Pl := c.foldl plS ⟨List.replicate u.toNat 0, 1⟩
def Bd (n : Int) (p : Pl) : Prop := (∀ j, -n ≤ p.co.getD j 0 ∧ p.co.getD j 0 ≤ n) ∧ -n ≤ p.bd ∧ p.bd ≤ n
def Lits (u : Int) (c : List Int) : Prop := 0 ≤ u ∧ u ≤ 12 ∧ ∀ x ∈ c, x ≠ 0 ∧ -u ≤ x ∧ x ≤ u
def sgl (u v n b : Int) : Pl := ⟨(List.replicate u.toNat 0).set (v - 1).toNat n, b⟩
def litI (u l : Int) : Pl := if 0 < l then sgl u l 1 0 else sgl u (0 - l) (-1) (-1)
def zipL (F : Int → Int → Int) (a b : List Int) : List Int := (List.range a.length).map fun i => F (a.getD i 0) (b.getD i 0)
def zipP (F : Int → Int → Int) (q r : Pl) : Pl := ⟨zipL F q.co r.co, F q.bd r.bd⟩
def addP (q r : Pl) : Pl := zipP (· + ·) q r
end Abs.Y
