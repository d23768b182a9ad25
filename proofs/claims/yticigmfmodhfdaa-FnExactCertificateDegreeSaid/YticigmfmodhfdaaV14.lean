/- What functions of this program compute, as contracts over plain data, with what the proofs need of them. No condition. -/
import Derived.Test.YticigmfmodhfdaaV12
set_option linter.all false
namespace Abs.Y
open Go Go.Proofs Abs
set_option maxRecDepth 100000

/-! ### Is it 1? -/
theorem equalD_ok (a b : List Int) (ha : a.length ≤ 4294967296) (hb : b.length ≤ 4294967296) : Ctr Try.prog 208 [.ints a, .ints b] false (.d (.bool (decide (a = b)))) [] := by
  by_cases hl : a.length = b.length
  · have hgood : (∀ j, j < a.length → a.getD j 0 = b.getD j 0) → decide (a = b) = true := fun h => decide_eq_true (ext_getDz 0 hl h)
    have hbad : ∀ i, i < a.length → a.getD i 0 ≠ b.getD i 0 → decide (a = b) = false := fun i _ h => decide_eq_false fun e => h (by rw [e])
    generalize decide (a = b) = t at *
    refine Ctr.of (n := 26) (rs := [.tmp 4]) Try.func208 rfl rfl Try.ntmps208 rfl rfl (by kernel_rfl) Try.checked.mixed ?_
    simp (disch := first | omega | decide +kernel) only [D.ints, go_sem, Nat.reduceEqDiff, Nat.reduceLT, Nat.reduceAdd, Nat.reduceMul, Nat.reduceSub, ↓reduceIte, reduceCtorEq, Nat.reduceLeDiff, Nat.reduceSubDiff, Nat.reduceBEq]
    (repeat' (first | (refine gsel_split (fun h => ?_) (fun h => ?_) <;> (have h' := h) <;> (try simp only [decide_eq_true_eq, decide_eq_false_iff_not, Bool.not_eq_true', Bool.not_eq_false', bne_iff_ne, ne_eq, beq_iff_eq, bne_eq_false_iff_eq, beq_eq_false_iff_ne, Int.ofNat_lt, Int.ofNat_le, Int.not_lt, Int.not_le, Decidable.not_not, Bool.and_eq_true, Bool.or_eq_true, Bool.or_eq_false_iff, gt_iff_lt, ge_iff_le] at h') <;> first | (exfalso; omega) | (simp (disch := first | omega | decide +kernel) only [h, D.ints, go_sem, Nat.reduceEqDiff, Nat.reduceLT, Nat.reduceAdd, Nat.reduceMul, Nat.reduceSub, ↓reduceIte, reduceCtorEq, Nat.reduceLeDiff, Nat.reduceSubDiff, Nat.reduceBEq] <;> clear h)) | ((first | refine hE _ _ ret_ne ?_ | refine hE _ _ exit_ne ?_) <;> try simp (disch := first | omega | decide +kernel) only [D.ints, go_sem, Nat.reduceEqDiff, Nat.reduceLT, Nat.reduceAdd, Nat.reduceMul, Nat.reduceSub, ↓reduceIte, reduceCtorEq, Nat.reduceLeDiff, Nat.reduceSubDiff, Nat.reduceBEq]) | (refine hN _ ?_ ?_ Wk.kk) | (with_reducible refine And.intro ?_ ?_) | (with_reducible omega) | (exact ok_ints) | (exact cells_ints) | (exact no_mem) | (with_reducible exact plain_ints) | (refine le_maxLen ?_; omega) | (refine List.forall_mem_cons.2 ⟨?_, ?_⟩) | (simp only [go_sem, Nat.reduceAdd, Nat.reduceLT, List.mem_cons, List.not_mem_nil, forall_eq]; done)))
    refine Ok.loopN [25, 24, 23, 22, 21, 20, 19, 18, 17, 16, 15, 14, 13, 11, 10, 9, 8, 7, 6, 5, 4, 3, 2] (fun i _ => [(13, .d (.int .i64 (i : Nat)))]) (fun _ _ => []) a.length
      (fun i (_ : Unit) => ∀ j, j < i → a.getD j 0 = b.getD j 0) () (by simp) (Wk.kk) ?_
    rintro R i ⟨⟩ hN hE hi hI
    by_cases hlt : i < a.length
    · have hbi := hbad i hlt
      have hI2 : a.getD i 0 = b.getD i 0 → ∀ j, j < i + 1 → a.getD j 0 = b.getD j 0 := fun h j hj => by
        by_cases e : j = i
        · rw [e]; exact h
        · exact hI j (by omega)
      clear hI hgood
      by_cases he : a.getD i 0 = b.getD i 0
      · have hc : (a.getD i 0 != b.getD i 0) = false := by rw [he]; simp
        simp (disch := first | omega | decide +kernel) only [hc, go_sem, Nat.reduceEqDiff, Nat.reduceLT, Nat.reduceAdd, Nat.reduceMul, Nat.reduceSub, ↓reduceIte, reduceCtorEq, Nat.reduceLeDiff, Nat.reduceSubDiff, Nat.reduceBEq]
        (repeat' (first | (refine gsel_split (fun h => ?_) (fun h => ?_) <;> (have h' := h) <;> (try simp only [decide_eq_true_eq, decide_eq_false_iff_not, Bool.not_eq_true', Bool.not_eq_false', bne_iff_ne, ne_eq, beq_iff_eq, bne_eq_false_iff_eq, beq_eq_false_iff_ne, Int.ofNat_lt, Int.ofNat_le, Int.not_lt, Int.not_le, Decidable.not_not, Bool.and_eq_true, Bool.or_eq_true, Bool.or_eq_false_iff, gt_iff_lt, ge_iff_le] at h') <;> first | (exfalso; omega) | (simp (disch := first | omega | decide +kernel) only [h, hc, go_sem, Nat.reduceEqDiff, Nat.reduceLT, Nat.reduceAdd, Nat.reduceMul, Nat.reduceSub, ↓reduceIte, reduceCtorEq, Nat.reduceLeDiff, Nat.reduceSubDiff, Nat.reduceBEq] <;> clear h)) | ((first | refine hE _ _ ret_ne ?_ | refine hE _ _ exit_ne ?_) <;> try simp (disch := first | omega | decide +kernel) only [hc, go_sem, Nat.reduceEqDiff, Nat.reduceLT, Nat.reduceAdd, Nat.reduceMul, Nat.reduceSub, ↓reduceIte, reduceCtorEq, Nat.reduceLeDiff, Nat.reduceSubDiff, Nat.reduceBEq]) | (refine hN _ ?_ ?_ Wk.kk) | (with_reducible refine And.intro ?_ ?_) | (with_reducible omega) | (exact ok_ints) | (exact cells_ints) | (exact no_mem) | (with_reducible exact plain_ints) | (refine le_maxLen ?_; omega) | (refine List.forall_mem_cons.2 ⟨?_, ?_⟩) | (simp only [go_sem, Nat.reduceAdd, Nat.reduceLT, List.mem_cons, List.not_mem_nil, forall_eq]; done)))
        all_goals (first | omega | (refine hN () _ hlt (hI2 he) (Wk.auto (by simp [extraK, lk, killL, St.kill, wipeO, wipeS, AV.has, AV.hasL, AO.wipe, List.map_set, updSt, insL, dropS, ins, ]) (by simp [extraK, lk, killL, St.kill, wipeO, wipeS, AV.has, AV.hasL, AO.wipe, List.map_set, updSt, insL, dropS, ins, ])); done) | trace_state)
      · have hc : (a.getD i 0 != b.getD i 0) = true := bne_iff_ne.2 he
        have ht := hbi he
        subst ht
        simp (disch := first | omega | decide +kernel) only [hc, go_sem, Nat.reduceEqDiff, Nat.reduceLT, Nat.reduceAdd, Nat.reduceMul, Nat.reduceSub, ↓reduceIte, reduceCtorEq, Nat.reduceLeDiff, Nat.reduceSubDiff, Nat.reduceBEq]
        (repeat' (first | (refine gsel_split (fun h => ?_) (fun h => ?_) <;> (have h' := h) <;> (try simp only [decide_eq_true_eq, decide_eq_false_iff_not, Bool.not_eq_true', Bool.not_eq_false', bne_iff_ne, ne_eq, beq_iff_eq, bne_eq_false_iff_eq, beq_eq_false_iff_ne, Int.ofNat_lt, Int.ofNat_le, Int.not_lt, Int.not_le, Decidable.not_not, Bool.and_eq_true, Bool.or_eq_true, Bool.or_eq_false_iff, gt_iff_lt, ge_iff_le] at h') <;> first | (exfalso; omega) | (simp (disch := first | omega | decide +kernel) only [h, hc, go_sem, Nat.reduceEqDiff, Nat.reduceLT, Nat.reduceAdd, Nat.reduceMul, Nat.reduceSub, ↓reduceIte, reduceCtorEq, Nat.reduceLeDiff, Nat.reduceSubDiff, Nat.reduceBEq] <;> clear h)) | ((first | refine hE _ _ ret_ne ?_ | refine hE _ _ exit_ne ?_) <;> try simp (disch := first | omega | decide +kernel) only [hc, go_sem, Nat.reduceEqDiff, Nat.reduceLT, Nat.reduceAdd, Nat.reduceMul, Nat.reduceSub, ↓reduceIte, reduceCtorEq, Nat.reduceLeDiff, Nat.reduceSubDiff, Nat.reduceBEq]) | (refine hN _ ?_ ?_ Wk.kk) | (with_reducible refine And.intro ?_ ?_) | (with_reducible omega) | (exact ok_ints) | (exact cells_ints) | (exact no_mem) | (with_reducible exact plain_ints) | (refine le_maxLen ?_; omega) | (refine List.forall_mem_cons.2 ⟨?_, ?_⟩) | (simp only [go_sem, Nat.reduceAdd, Nat.reduceLT, List.mem_cons, List.not_mem_nil, forall_eq]; done)))
        all_goals (first | omega | trace_state)
    · obtain rfl : i = a.length := by omega
      have ht := hgood hI
      subst ht
      simp (disch := first | omega | decide +kernel) only [go_sem, Nat.reduceEqDiff, Nat.reduceLT, Nat.reduceAdd, Nat.reduceMul, Nat.reduceSub, ↓reduceIte, reduceCtorEq, Nat.reduceLeDiff, Nat.reduceSubDiff, Nat.reduceBEq]
      (repeat' (first | (refine gsel_split (fun h => ?_) (fun h => ?_) <;> (have h' := h) <;> (try simp only [decide_eq_true_eq, decide_eq_false_iff_not, Bool.not_eq_true', Bool.not_eq_false', bne_iff_ne, ne_eq, beq_iff_eq, bne_eq_false_iff_eq, beq_eq_false_iff_ne, Int.ofNat_lt, Int.ofNat_le, Int.not_lt, Int.not_le, Decidable.not_not, Bool.and_eq_true, Bool.or_eq_true, Bool.or_eq_false_iff, gt_iff_lt, ge_iff_le] at h') <;> first | (exfalso; omega) | (simp (disch := first | omega | decide +kernel) only [h, go_sem, Nat.reduceEqDiff, Nat.reduceLT, Nat.reduceAdd, Nat.reduceMul, Nat.reduceSub, ↓reduceIte, reduceCtorEq, Nat.reduceLeDiff, Nat.reduceSubDiff, Nat.reduceBEq] <;> clear h)) | ((first | refine hE _ _ ret_ne ?_ | refine hE _ _ exit_ne ?_) <;> try simp (disch := first | omega | decide +kernel) only [go_sem, Nat.reduceEqDiff, Nat.reduceLT, Nat.reduceAdd, Nat.reduceMul, Nat.reduceSub, ↓reduceIte, reduceCtorEq, Nat.reduceLeDiff, Nat.reduceSubDiff, Nat.reduceBEq]) | (refine hN _ ?_ ?_ Wk.kk) | (with_reducible refine And.intro ?_ ?_) | (with_reducible omega) | (exact ok_ints) | (exact cells_ints) | (exact no_mem) | (with_reducible exact plain_ints) | (refine le_maxLen ?_; omega) | (refine List.forall_mem_cons.2 ⟨?_, ?_⟩) | (simp only [go_sem, Nat.reduceAdd, Nat.reduceLT, List.mem_cons, List.not_mem_nil, forall_eq]; done)))
      all_goals (first | omega | trace_state)
  · rw [decide_eq_false fun e => hl (by rw [e])]
    refine Ctr.of (n := 26) (rs := [.tmp 4]) Try.func208 rfl rfl Try.ntmps208 rfl rfl (by kernel_rfl) Try.checked.mixed ?_
    simp (disch := first | omega | decide +kernel) only [D.ints, go_sem, Nat.reduceEqDiff, Nat.reduceLT, Nat.reduceAdd, Nat.reduceMul, Nat.reduceSub, ↓reduceIte, reduceCtorEq, Nat.reduceLeDiff, Nat.reduceSubDiff, Nat.reduceBEq]
    (repeat' (first | (refine gsel_split (fun h => ?_) (fun h => ?_) <;> (have h' := h) <;> (try simp only [decide_eq_true_eq, decide_eq_false_iff_not, Bool.not_eq_true', Bool.not_eq_false', bne_iff_ne, ne_eq, beq_iff_eq, bne_eq_false_iff_eq, beq_eq_false_iff_ne, Int.ofNat_lt, Int.ofNat_le, Int.not_lt, Int.not_le, Decidable.not_not, Bool.and_eq_true, Bool.or_eq_true, Bool.or_eq_false_iff, gt_iff_lt, ge_iff_le] at h') <;> first | (exfalso; omega) | (simp (disch := first | omega | decide +kernel) only [h, D.ints, go_sem, Nat.reduceEqDiff, Nat.reduceLT, Nat.reduceAdd, Nat.reduceMul, Nat.reduceSub, ↓reduceIte, reduceCtorEq, Nat.reduceLeDiff, Nat.reduceSubDiff, Nat.reduceBEq] <;> clear h)) | ((first | refine hE _ _ ret_ne ?_ | refine hE _ _ exit_ne ?_) <;> try simp (disch := first | omega | decide +kernel) only [D.ints, go_sem, Nat.reduceEqDiff, Nat.reduceLT, Nat.reduceAdd, Nat.reduceMul, Nat.reduceSub, ↓reduceIte, reduceCtorEq, Nat.reduceLeDiff, Nat.reduceSubDiff, Nat.reduceBEq]) | (refine hN _ ?_ ?_ Wk.kk) | (with_reducible refine And.intro ?_ ?_) | (with_reducible omega) | (exact ok_ints) | (exact cells_ints) | (exact no_mem) | (with_reducible exact plain_ints) | (refine le_maxLen ?_; omega) | (refine List.forall_mem_cons.2 ⟨?_, ?_⟩) | (simp only [go_sem, Nat.reduceAdd, Nat.reduceLT, List.mem_cons, List.not_mem_nil, forall_eq]; done)))
    all_goals (first | omega | trace_state)
theorem l19One_ok {a : List (Int × Int)} (hl : a.length ≤ 4294967296) : Ctr Try.prog 124 [D.tms a] false (.d (.bool (decide (a = [(0, 1)])))) [] := by
  match a, hl with
  | [], _ =>
    rw [decide_eq_false (by simp)]
    refine Ctr.of (n := 20) (rs := [.tmp 2]) Try.func124 rfl rfl Try.ntmps124 rfl rfl (by kernel_rfl) Try.checked.mixed ?_
    simp (disch := first | omega | decide +kernel) only [go_sem, Nat.reduceEqDiff, Nat.reduceLT, Nat.reduceAdd, Nat.reduceMul, Nat.reduceSub, ↓reduceIte, reduceCtorEq, Nat.reduceLeDiff, Nat.reduceSubDiff, Nat.reduceBEq]
    (repeat' (first | (refine gsel_split (fun h => ?_) (fun h => ?_) <;> (have h' := h) <;> (try simp only [decide_eq_true_eq, decide_eq_false_iff_not, Bool.not_eq_true', Bool.not_eq_false', bne_iff_ne, ne_eq, beq_iff_eq, bne_eq_false_iff_eq, beq_eq_false_iff_ne, Int.ofNat_lt, Int.ofNat_le, Int.not_lt, Int.not_le, Decidable.not_not, Bool.and_eq_true, Bool.or_eq_true, Bool.or_eq_false_iff, gt_iff_lt, ge_iff_le] at h') <;> first | (exfalso; omega) | (simp (disch := first | omega | decide +kernel) only [h, go_sem, Nat.reduceEqDiff, Nat.reduceLT, Nat.reduceAdd, Nat.reduceMul, Nat.reduceSub, ↓reduceIte, reduceCtorEq, Nat.reduceLeDiff, Nat.reduceSubDiff, Nat.reduceBEq] <;> clear h)) | ((first | refine hE _ _ ret_ne ?_ | refine hE _ _ exit_ne ?_) <;> try simp (disch := first | omega | decide +kernel) only [go_sem, Nat.reduceEqDiff, Nat.reduceLT, Nat.reduceAdd, Nat.reduceMul, Nat.reduceSub, ↓reduceIte, reduceCtorEq, Nat.reduceLeDiff, Nat.reduceSubDiff, Nat.reduceBEq]) | (refine hN _ ?_ ?_ Wk.kk) | (with_reducible refine And.intro ?_ ?_) | (with_reducible omega) | (exact ok_ints) | (exact cells_ints) | (exact no_mem) | (with_reducible exact plain_ints) | (refine le_maxLen ?_; omega) | (refine List.forall_mem_cons.2 ⟨?_, ?_⟩) | (simp only [go_sem, Nat.reduceAdd, Nat.reduceLT, List.mem_cons, List.not_mem_nil, forall_eq]; done)))
    all_goals (first | omega | trace_state)
  | [(m, c)], _ =>
    have e : decide ([(m, c)] = [((0 : Int), (1 : Int))]) = (decide (m = 0) && decide (c = 1)) := by
      by_cases h1 : m = 0 <;> by_cases h2 : c = 1 <;> simp [h1, h2]
    rw [e]
    have hel : el [D.tm (m, c)] 0 = .agg [.int .i64 m, .int .i64 c] := rfl
    refine Ctr.of (n := 20) (rs := [.tmp 2]) Try.func124 rfl rfl Try.ntmps124 rfl rfl (by kernel_rfl) Try.checked.mixed ?_
    simp (disch := first | omega | decide +kernel) only [hel, List.map_cons, List.map_nil, go_sem, Nat.reduceEqDiff, Nat.reduceLT, Nat.reduceAdd, Nat.reduceMul, Nat.reduceSub, ↓reduceIte, reduceCtorEq, Nat.reduceLeDiff, Nat.reduceSubDiff, Nat.reduceBEq]
    (repeat' (first | (refine gsel_split (fun h => ?_) (fun h => ?_) <;> (have h' := h) <;> (try simp only [decide_eq_true_eq, decide_eq_false_iff_not, Bool.not_eq_true', Bool.not_eq_false', bne_iff_ne, ne_eq, beq_iff_eq, bne_eq_false_iff_eq, beq_eq_false_iff_ne, Int.ofNat_lt, Int.ofNat_le, Int.not_lt, Int.not_le, Decidable.not_not, Bool.and_eq_true, Bool.or_eq_true, Bool.or_eq_false_iff, gt_iff_lt, ge_iff_le] at h') <;> first | (exfalso; omega) | (simp (disch := first | omega | decide +kernel) only [h, hel, List.map_cons, List.map_nil, go_sem, Nat.reduceEqDiff, Nat.reduceLT, Nat.reduceAdd, Nat.reduceMul, Nat.reduceSub, ↓reduceIte, reduceCtorEq, Nat.reduceLeDiff, Nat.reduceSubDiff, Nat.reduceBEq] <;> clear h)) | ((first | refine hE _ _ ret_ne ?_ | refine hE _ _ exit_ne ?_) <;> try simp (disch := first | omega | decide +kernel) only [hel, List.map_cons, List.map_nil, go_sem, Nat.reduceEqDiff, Nat.reduceLT, Nat.reduceAdd, Nat.reduceMul, Nat.reduceSub, ↓reduceIte, reduceCtorEq, Nat.reduceLeDiff, Nat.reduceSubDiff, Nat.reduceBEq]) | (refine hN _ ?_ ?_ Wk.kk) | (with_reducible refine And.intro ?_ ?_) | (with_reducible omega) | (exact ok_ints) | (exact cells_ints) | (exact no_mem) | (with_reducible exact plain_ints) | (refine le_maxLen ?_; omega) | (refine List.forall_mem_cons.2 ⟨?_, ?_⟩) | (simp only [go_sem, Nat.reduceAdd, Nat.reduceLT, List.mem_cons, List.not_mem_nil, forall_eq]; done)))
    all_goals (first | omega | (by_cases hc : c = 1 <;> simp_all [D.plain]; done) | (simp_all [D.plain]; done) | trace_state)
  | t1 :: t2 :: r, _ =>
    rw [decide_eq_false (by simp)]
    refine Ctr.of (n := 20) (rs := [.tmp 2]) Try.func124 rfl rfl Try.ntmps124 rfl rfl (by kernel_rfl) Try.checked.mixed ?_
    simp (disch := first | omega | decide +kernel) only [go_sem, Nat.reduceEqDiff, Nat.reduceLT, Nat.reduceAdd, Nat.reduceMul, Nat.reduceSub, ↓reduceIte, reduceCtorEq, Nat.reduceLeDiff, Nat.reduceSubDiff, Nat.reduceBEq]
    (repeat' (first | (refine gsel_split (fun h => ?_) (fun h => ?_) <;> (have h' := h) <;> (try simp only [decide_eq_true_eq, decide_eq_false_iff_not, Bool.not_eq_true', Bool.not_eq_false', bne_iff_ne, ne_eq, beq_iff_eq, bne_eq_false_iff_eq, beq_eq_false_iff_ne, Int.ofNat_lt, Int.ofNat_le, Int.not_lt, Int.not_le, Decidable.not_not, Bool.and_eq_true, Bool.or_eq_true, Bool.or_eq_false_iff, gt_iff_lt, ge_iff_le] at h') <;> first | (exfalso; omega) | (simp (disch := first | omega | decide +kernel) only [h, go_sem, Nat.reduceEqDiff, Nat.reduceLT, Nat.reduceAdd, Nat.reduceMul, Nat.reduceSub, ↓reduceIte, reduceCtorEq, Nat.reduceLeDiff, Nat.reduceSubDiff, Nat.reduceBEq] <;> clear h)) | ((first | refine hE _ _ ret_ne ?_ | refine hE _ _ exit_ne ?_) <;> try simp (disch := first | omega | decide +kernel) only [go_sem, Nat.reduceEqDiff, Nat.reduceLT, Nat.reduceAdd, Nat.reduceMul, Nat.reduceSub, ↓reduceIte, reduceCtorEq, Nat.reduceLeDiff, Nat.reduceSubDiff, Nat.reduceBEq]) | (refine hN _ ?_ ?_ Wk.kk) | (with_reducible refine And.intro ?_ ?_) | (with_reducible omega) | (exact ok_ints) | (exact cells_ints) | (exact no_mem) | (with_reducible exact plain_ints) | (refine le_maxLen ?_; omega) | (refine List.forall_mem_cons.2 ⟨?_, ?_⟩) | (simp only [go_sem, Nat.reduceAdd, Nat.reduceLT, List.mem_cons, List.not_mem_nil, forall_eq]; done)))
    all_goals (first | omega | (simp_all [D.plain]; done) | trace_state)
theorem one_iff {u : Nat} (hu : u ≤ 6) {V : List Int} (hl : V.length = 2 ^ u) : spT V = [(0, 1)] ↔ V = monoD u 0 := by
  have h1 := sp_one u (by omega)
  constructor
  · intro h
    have e1 := dn_sp V
    have e2 := dn_sp (monoD u 0)
    rw [h] at e1
    rw [h1] at e2
    rw [← e1, ← e2, hl, mono_len]
  · intro h; rw [h]; exact h1
section
variable {p : Int} {u : Nat} (hp : 1 < p ∧ p ≤ 5) (hu : u ≤ 6)
include hp hu
theorem isOne_ok {cs q : List (List Int)} {V : List Int} (hV : V.length = 2 ^ u) : Ctr Try.prog 130 [.ptr (D.alg p u cs q), .ints V] false (.d (.bool (decide (V = monoD u 0)))) [] := by
  have h2 := pow_le6 hu
  have h1 : 0 < 2 ^ u := Nat.pow_pos (by decide)
  have c1 := Ctr.data1 (mono_ok hp hu (m := 0) h1)
  have c2 := equalD_ok V (monoD u 0) (by omega) (by rw [mono_len]; omega)
  generalize decide (V = monoD u 0) = t at *
  refine Ctr.of (n := 12) (rs := [.tmp 4]) Try.func130 rfl rfl Try.ntmps130 rfl rfl (by kernel_rfl) Try.checked.mixed ?_
  simp (disch := first | omega | decide +kernel) only [D.alg, D.ints, go_sem, Nat.reduceEqDiff, Nat.reduceLT, Nat.reduceAdd, Nat.reduceMul, Nat.reduceSub, ↓reduceIte, reduceCtorEq, Nat.reduceLeDiff, Nat.reduceSubDiff, Nat.reduceBEq]
  (repeat' (first | (refine gsel_split (fun h => ?_) (fun h => ?_) <;> (have h' := h) <;> (try simp only [decide_eq_true_eq, decide_eq_false_iff_not, Bool.not_eq_true', Bool.not_eq_false', bne_iff_ne, ne_eq, beq_iff_eq, bne_eq_false_iff_eq, beq_eq_false_iff_ne, Int.ofNat_lt, Int.ofNat_le, Int.not_lt, Int.not_le, Decidable.not_not, Bool.and_eq_true, Bool.or_eq_true, Bool.or_eq_false_iff, gt_iff_lt, ge_iff_le] at h') <;> first | (exfalso; omega) | (simp (disch := first | omega | decide +kernel) only [h, D.ints, go_sem, Nat.reduceEqDiff, Nat.reduceLT, Nat.reduceAdd, Nat.reduceMul, Nat.reduceSub, ↓reduceIte, reduceCtorEq, Nat.reduceLeDiff, Nat.reduceSubDiff, Nat.reduceBEq] <;> clear h)) | ((first | refine callX_shared (c1) rfl (by decide) ?_ | refine callY_shared (c1) rfl ?_ | refine callX_new (c2) rfl (by decide) ?_ | refine callY_new (c2) rfl ?_ | refine hE _ _ ret_ne ?_ | refine hE _ _ exit_ne ?_) <;> try simp (disch := first | omega | decide +kernel) only [D.ints, go_sem, Nat.reduceEqDiff, Nat.reduceLT, Nat.reduceAdd, Nat.reduceMul, Nat.reduceSub, ↓reduceIte, reduceCtorEq, Nat.reduceLeDiff, Nat.reduceSubDiff, Nat.reduceBEq]) | (refine hN _ ?_ ?_ Wk.kk) | (with_reducible refine And.intro ?_ ?_) | (with_reducible omega) | (exact ok_ints) | (exact cells_ints) | (exact no_mem) | (with_reducible exact plain_ints) | (refine le_maxLen ?_; omega) | (refine List.forall_mem_cons.2 ⟨?_, ?_⟩) | (simp only [go_sem, Nat.reduceAdd, Nat.reduceLT, List.mem_cons, List.not_mem_nil, forall_eq]; done)))
  all_goals (first | omega | trace_state)
end
end Abs.Y

namespace Abs.Y
open Go Go.Proofs Abs
set_option maxRecDepth 100000

/-! ### The reference's sum -/
/-- The sum of the products of polynomials and those of the clauses, by coefficients. -/
def sumC (p : Int) (u : Nat) (cs : List (List Int)) (list : List (List (Int × Int))) (k : Nat) : List Int :=
  (List.range k).foldl (fun v i => addD p 1 v (mulD p (2 ^ u) (dnT (2 ^ u) (list.getD i [])) (clauseD p u (cs.getD i [])))) (List.replicate (2 ^ u) 0)
theorem sumC_succ (p : Int) (u : Nat) (cs : List (List Int)) (list : List (List (Int × Int))) (k : Nat) :
    sumC p u cs list (k + 1) = addD p 1 (sumC p u cs list k) (mulD p (2 ^ u) (dnT (2 ^ u) (list.getD k [])) (clauseD p u (cs.getD k []))) := by
  rw [sumC, List.range_succ, List.foldl_append]; rfl
theorem Vec.sumC {p : Int} (hp : 1 < p) (u : Nat) (cs : List (List Int)) (list : List (List (Int × Int))) : ∀ k, Vec p (2 ^ u) (sumC p u cs list k)
  | 0 => Vec.zero (by omega) _
  | k + 1 => by
    rw [sumC_succ]
    exact Vec.addD (by omega) (Vec.sumC hp u cs list k).1 (Vec.mulD (by omega) _ _ _).1
theorem sp_zero : ∀ u, u < 7 → spT (List.replicate (2 ^ u) 0) = [] := by decide +kernel
section
variable {p : Int} {u : Nat} (hp : 1 < p ∧ p ≤ 5) (hu : u ≤ 6)
include hp hu
set_option maxHeartbeats 4000000 in
theorem l19Sum_ok {cs : List (List Int)} {list : List (List (Int × Int))} (hok : okCnf u cs = true) (hl : list.length = cs.length) (hcl : cs.length ≤ 4294967296) (hc : ∀ j, (cs.getD j []).length ≤ 4294967296) (hx : ∀ j, (list.getD j []).length ≤ 4294967296) (hT : ∀ j, j < list.length → isT p (2 ^ u) (list.getD j []) = true) :
    Ctr Try.prog 125 [.int .i64 p, .agg [.int .i64 u, .slice (cs.map D.ints)], .slice (list.map D.tms)] true (.d (D.tms (spT (sumC p u cs list list.length)))) [] := by
  have h2 := pow_le6 hu
  have hz := sp_zero u (by omega)
  refine Ctr.of (n := 39) (rs := [.tmp 6]) Try.func125 rfl rfl Try.ntmps125 rfl rfl (by kernel_rfl) Try.checked.mixed ?_
  simp (disch := first | omega | decide +kernel) only [D.ints, go_sem, Nat.reduceEqDiff, Nat.reduceLT, Nat.reduceAdd, Nat.reduceMul, Nat.reduceSub, ↓reduceIte, reduceCtorEq, Nat.reduceLeDiff, Nat.reduceSubDiff, Nat.reduceBEq]
  (repeat' (first | (refine gsel_split (fun h => ?_) (fun h => ?_) <;> (have h' := h) <;> (try simp only [decide_eq_true_eq, decide_eq_false_iff_not, Bool.not_eq_true', Bool.not_eq_false', bne_iff_ne, ne_eq, beq_iff_eq, bne_eq_false_iff_eq, beq_eq_false_iff_ne, Int.ofNat_lt, Int.ofNat_le, Int.not_lt, Int.not_le, Decidable.not_not, Bool.and_eq_true, Bool.or_eq_true, Bool.or_eq_false_iff, gt_iff_lt, ge_iff_le] at h') <;> first | (exfalso; omega) | (simp (disch := first | omega | decide +kernel) only [h, D.ints, go_sem, Nat.reduceEqDiff, Nat.reduceLT, Nat.reduceAdd, Nat.reduceMul, Nat.reduceSub, ↓reduceIte, reduceCtorEq, Nat.reduceLeDiff, Nat.reduceSubDiff, Nat.reduceBEq] <;> clear h)) | ((first | refine hE _ _ ret_ne ?_ | refine hE _ _ exit_ne ?_) <;> try simp (disch := first | omega | decide +kernel) only [D.ints, go_sem, Nat.reduceEqDiff, Nat.reduceLT, Nat.reduceAdd, Nat.reduceMul, Nat.reduceSub, ↓reduceIte, reduceCtorEq, Nat.reduceLeDiff, Nat.reduceSubDiff, Nat.reduceBEq]) | (refine hN _ ?_ ?_ Wk.kk) | (with_reducible refine And.intro ?_ ?_) | (with_reducible omega) | (exact ok_ints) | (exact cells_ints) | (exact no_mem) | (with_reducible exact plain_ints) | (refine le_maxLen ?_; omega) | (refine List.forall_mem_cons.2 ⟨?_, ?_⟩) | (simp only [go_sem, Nat.reduceAdd, Nat.reduceLT, List.mem_cons, List.not_mem_nil, forall_eq]; done)))
  refine Ok.weak (Wk.frz (j := 9) rfl) ?_
  simp (disch := first | omega | decide +kernel) only [St.frz, frzS, frzO, AV.frz, AV.frzL, AO.frz, go_sem, Nat.reduceEqDiff, Nat.reduceLT, Nat.reduceAdd, Nat.reduceMul, Nat.reduceSub, ↓reduceIte, reduceCtorEq, Nat.reduceLeDiff, Nat.reduceSubDiff, Nat.reduceBEq]
  refine Ok.loopN [37, 36, 35, 34, 33, 32, 31, 30, 29, 28, 27, 26, 25, 24, 23, 22, 21, 20, 19, 18, 17, 16, 15, 14, 13, 12, 11, 10, 9, 8, 7, 5, 3, 1] (fun i (v : List Int) => [(8, .d (.int .i64 (i : Nat))), (7, .d (D.tms (spT v)))]) (fun _ _ => []) list.length
    (fun i v => v = sumC p u cs list i) (List.replicate (2 ^ u) 0) rfl (Wk.auto (by simp [extraK, lk, killL, St.kill, wipeO, wipeS, AV.has, AV.hasL, AO.wipe, List.map_set, updSt, insL, dropS, ins, D.ints, D.tms, D.tm, hz, List.map_cons, List.map_nil]) (by simp [extraK, lk, killL, St.kill, wipeO, wipeS, AV.has, AV.hasL, AO.wipe, List.map_set, updSt, insL, dropS, ins, D.ints, D.tms, D.tm, hz, List.map_cons, List.map_nil])) ?_
  rintro R i v hN hE hi hv
  by_cases hlt : i < list.length
  · have hvv : Vec p (2 ^ u) v := by rw [hv]; exact Vec.sumC hp.1 u cs list i
    have hs := sumC_succ p u cs list i
    rw [← hv] at hs
    have hTi := hT i hlt
    have hei := el_tms hlt
    have hci : cs.getD i [] ∈ cs := getD_mem (z := ([] : List Int)) (by omega)
    have c1 := l18Clause_ok hp hu (hc i) (cnf_lits hok hci)
    have hC := Vec.clause hp.1 u (cs.getD i [])
    have hlC := Tms.len hC.1 h2
    have c2 := Ctr.data1 (l18Mul_ok hp hu (a := list.getD i []) (b := spT (clauseD p u (cs.getD i []))) (hx i) (by omega) (isT_tms hTi) (tms_sp hC))
    have hm : mulS p (2 ^ u) (list.getD i []) (spT (clauseD p u (cs.getD i []))) = mulD p (2 ^ u) (dnT (2 ^ u) (list.getD i [])) (clauseD p u (cs.getD i [])) := by
      have := mul_eq (p := p) (n := 2 ^ u) (a := dnT (2 ^ u) (list.getD i [])) (b := clauseD p u (cs.getD i [])) (by omega)
      rwa [sp_dn hTi] at this
    rw [hm] at c2
    have hM := Vec.mulD (p := p) (by omega) (2 ^ u) (dnT (2 ^ u) (list.getD i [])) (clauseD p u (cs.getD i []))
    have hlM := Tms.len hM.1 h2
    have hlv := Tms.len hvv.1 h2
    have c3 := Ctr.data1 (l18Add_ok hp hu (a := spT v) (b := spT (mulD p (2 ^ u) (dnT (2 ^ u) (list.getD i [])) (clauseD p u (cs.getD i [])))) (by omega) (by omega) (tms_sp hvv) (tms_sp hM))
    have e1 : dnT (2 ^ u) (spT v) = v := by rw [← hvv.1]; exact dn_sp v
    generalize mulD p (2 ^ u) (dnT (2 ^ u) (list.getD i [])) (clauseD p u (cs.getD i [])) = M at *
    have e2 : dnT (2 ^ u) (spT M) = M := by rw [← hM.1]; exact dn_sp M
    rw [e1, e2] at c3
    clear hv hm hC hT hx
    generalize clauseD p u (cs.getD i []) = C at *
    generalize addD p 1 v M = w at *
    simp (disch := first | omega | decide +kernel) only [D.ints, hei, go_sem, Nat.reduceEqDiff, Nat.reduceLT, Nat.reduceAdd, Nat.reduceMul, Nat.reduceSub, ↓reduceIte, reduceCtorEq, Nat.reduceLeDiff, Nat.reduceSubDiff, Nat.reduceBEq]
    (repeat' (first | (refine gsel_split (fun h => ?_) (fun h => ?_) <;> (have h' := h) <;> (try simp only [decide_eq_true_eq, decide_eq_false_iff_not, Bool.not_eq_true', Bool.not_eq_false', bne_iff_ne, ne_eq, beq_iff_eq, bne_eq_false_iff_eq, beq_eq_false_iff_ne, Int.ofNat_lt, Int.ofNat_le, Int.not_lt, Int.not_le, Decidable.not_not, Bool.and_eq_true, Bool.or_eq_true, Bool.or_eq_false_iff, gt_iff_lt, ge_iff_le] at h') <;> first | (exfalso; omega) | (simp (disch := first | omega | decide +kernel) only [h, D.ints, hei, go_sem, Nat.reduceEqDiff, Nat.reduceLT, Nat.reduceAdd, Nat.reduceMul, Nat.reduceSub, ↓reduceIte, reduceCtorEq, Nat.reduceLeDiff, Nat.reduceSubDiff, Nat.reduceBEq] <;> clear h)) | ((first | refine callX_shared (c1) rfl (by decide) ?_ | refine callY_shared (c1) rfl ?_ | refine callX_shared (c2) rfl (by decide) ?_ | refine callY_shared (c2) rfl ?_ | refine callX_shared (c3) rfl (by decide) ?_ | refine callY_shared (c3) rfl ?_ | refine hE _ _ ret_ne ?_ | refine hE _ _ exit_ne ?_) <;> try simp (disch := first | omega | decide +kernel) only [D.ints, hei, go_sem, Nat.reduceEqDiff, Nat.reduceLT, Nat.reduceAdd, Nat.reduceMul, Nat.reduceSub, ↓reduceIte, reduceCtorEq, Nat.reduceLeDiff, Nat.reduceSubDiff, Nat.reduceBEq]) | (refine hN _ ?_ ?_ Wk.kk) | (with_reducible refine And.intro ?_ ?_) | (with_reducible omega) | (exact ok_ints) | (exact cells_ints) | (exact no_mem) | (with_reducible exact plain_ints) | (refine le_maxLen ?_; omega) | (refine List.forall_mem_cons.2 ⟨?_, ?_⟩) | (simp only [go_sem, Nat.reduceAdd, Nat.reduceLT, List.mem_cons, List.not_mem_nil, forall_eq]; done)))
    all_goals (first | omega | (refine hN w _ hlt hs.symm (Wk.auto (by simp [extraK, lk, killL, St.kill, wipeO, wipeS, AV.has, AV.hasL, AO.wipe, List.map_set, updSt, insL, dropS, ins, D.ints]) (by simp [extraK, lk, killL, St.kill, wipeO, wipeS, AV.has, AV.hasL, AO.wipe, List.map_set, updSt, insL, dropS, ins, D.ints])); done) | trace_state)
  · obtain rfl : i = list.length := by omega
    rw [← hv] at hE
    simp (disch := first | omega | decide +kernel) only [D.ints, go_sem, Nat.reduceEqDiff, Nat.reduceLT, Nat.reduceAdd, Nat.reduceMul, Nat.reduceSub, ↓reduceIte, reduceCtorEq, Nat.reduceLeDiff, Nat.reduceSubDiff, Nat.reduceBEq]
    (repeat' (first | (refine gsel_split (fun h => ?_) (fun h => ?_) <;> (have h' := h) <;> (try simp only [decide_eq_true_eq, decide_eq_false_iff_not, Bool.not_eq_true', Bool.not_eq_false', bne_iff_ne, ne_eq, beq_iff_eq, bne_eq_false_iff_eq, beq_eq_false_iff_ne, Int.ofNat_lt, Int.ofNat_le, Int.not_lt, Int.not_le, Decidable.not_not, Bool.and_eq_true, Bool.or_eq_true, Bool.or_eq_false_iff, gt_iff_lt, ge_iff_le] at h') <;> first | (exfalso; omega) | (simp (disch := first | omega | decide +kernel) only [h, D.ints, go_sem, Nat.reduceEqDiff, Nat.reduceLT, Nat.reduceAdd, Nat.reduceMul, Nat.reduceSub, ↓reduceIte, reduceCtorEq, Nat.reduceLeDiff, Nat.reduceSubDiff, Nat.reduceBEq] <;> clear h)) | ((first | refine hE _ _ ret_ne ?_ | refine hE _ _ exit_ne ?_) <;> try simp (disch := first | omega | decide +kernel) only [D.ints, go_sem, Nat.reduceEqDiff, Nat.reduceLT, Nat.reduceAdd, Nat.reduceMul, Nat.reduceSub, ↓reduceIte, reduceCtorEq, Nat.reduceLeDiff, Nat.reduceSubDiff, Nat.reduceBEq]) | (refine hN _ ?_ ?_ Wk.kk) | (with_reducible refine And.intro ?_ ?_) | (with_reducible omega) | (exact ok_ints) | (exact cells_ints) | (exact no_mem) | (with_reducible exact plain_ints) | (refine le_maxLen ?_; omega) | (refine List.forall_mem_cons.2 ⟨?_, ?_⟩) | (simp only [go_sem, Nat.reduceAdd, Nat.reduceLT, List.mem_cons, List.not_mem_nil, forall_eq]; done)))
    all_goals (first | omega | exact ret_s1 [] rfl | trace_state)
end
end Abs.Y
