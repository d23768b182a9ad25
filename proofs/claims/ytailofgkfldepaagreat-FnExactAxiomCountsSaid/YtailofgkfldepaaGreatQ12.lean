/- What functions of this program compute, as contracts over plain data, with what the proofs need of them. No condition. -/
import Derived.Test.YtailofgkfldepaaGreatQ5
set_option linter.all false
namespace Abs.Y
open Go Go.Proofs Abs
set_option maxRecDepth 100000

/-! ### What a step uses -/
def premI (s : Step) : List Int := if s.l < 0 then [] else if s.r < 0 then [s.l] else [s.l, s.r]
theorem premises_ok (s : Step) : Ctr Tryz.prog 60 [D.step s] true (.d (.ints (premI s))) [] := by
  have c1 := isAxiom_ok s
  have c2 := isWeakening_ok s
  unfold premI
  by_cases ha : s.l < 0
  · rw [decide_eq_true ha] at c1
    rw [if_pos ha]
    refine Ctr.of (n := 17) (rs := [.tmp 2]) Tryz.func60 rfl rfl Tryz.ntmps60 rfl rfl (by kernel_rfl) Tryz.checked.mixed ?_
    simp (disch := first | omega | decide +kernel) only [D.step, D.ints, el_ints, el_intss, el_steps, wrap_of, Int.toNat_natCast, toNat_pred, Int.toNat_zero, Nat.sub_zero, List.drop_zero, ← List.map_take, ← List.map_drop, go_sem, Nat.reduceEqDiff, Nat.reduceLT, Nat.reduceAdd, Nat.reduceMul, Nat.reduceSub, ↓reduceIte, reduceCtorEq, Nat.reduceLeDiff, Nat.reduceSubDiff, Nat.reduceBEq]
    (repeat' (first | (refine gsel_split (fun h => ?_) (fun h => ?_) <;> (have h' := h) <;> (try simp only [decide_eq_true_eq, decide_eq_false_iff_not, Bool.not_eq_true', Bool.not_eq_false', bne_iff_ne, ne_eq, beq_iff_eq, bne_eq_false_iff_eq, beq_eq_false_iff_ne, Int.ofNat_lt, Int.ofNat_le, Int.not_lt, Int.not_le, Decidable.not_not, Bool.and_eq_true, Bool.or_eq_true, Bool.or_eq_false_iff, gt_iff_lt, ge_iff_le] at h') <;> simp (disch := first | omega | decide +kernel) only [h, el_ints, el_intss, el_steps, wrap_of, Int.toNat_natCast, toNat_pred, Int.toNat_zero, Nat.sub_zero, List.drop_zero, ← List.map_take, ← List.map_drop, D.step, D.ints, go_sem, Nat.reduceEqDiff, Nat.reduceLT, Nat.reduceAdd, Nat.reduceMul, Nat.reduceSub, ↓reduceIte, reduceCtorEq, Nat.reduceLeDiff, Nat.reduceSubDiff, Nat.reduceBEq] <;> clear h) | ((first | refine callX_new (c1) rfl (by decide) ?_ | refine callY_new (c1) rfl ?_ | refine callX_new (c2) rfl (by decide) ?_ | refine callY_new (c2) rfl ?_ | refine hE _ _ ret_ne ?_ | refine hE _ _ exit_ne ?_) <;> try simp (disch := first | omega | decide +kernel) only [el_ints, el_intss, el_steps, wrap_of, Int.toNat_natCast, toNat_pred, Int.toNat_zero, Nat.sub_zero, List.drop_zero, ← List.map_take, ← List.map_drop, D.step, D.ints, go_sem, Nat.reduceEqDiff, Nat.reduceLT, Nat.reduceAdd, Nat.reduceMul, Nat.reduceSub, ↓reduceIte, reduceCtorEq, Nat.reduceLeDiff, Nat.reduceSubDiff, Nat.reduceBEq]) | (refine hN _ ?_ ?_ (Wk.auto (by simp [extraK, lk, killL, St.kill, wipeO, wipeS, AV.has, AV.hasL, AO.wipe, List.map_set, updSt, insL, dropS, ins]) (by simp [extraK, lk, killL, St.kill, wipeO, wipeS, AV.has, AV.hasL, AO.wipe, List.map_set, updSt, insL, dropS, ins]))) | (with_reducible refine And.intro ?_ ?_) | (with_reducible omega) | (exact ok_ints) | (exact cells_ints) | (exact no_mem) | (with_reducible exact plain_ints) | (refine le_maxLen ?_; omega) | (refine List.forall_mem_cons.2 ⟨?_, ?_⟩) | (simp only [go_sem, List.length_cons, List.length_nil, Nat.reduceAdd, Nat.reduceLT, Nat.zero_lt_succ, and_self, List.mem_cons, List.not_mem_nil, or_false, forall_eq]; done)))
    all_goals (first | exact ret_s1 [2] rfl | exact ret_s1 [11] rfl | exact ret_s1 [16] rfl)
  · rw [decide_eq_false ha] at c1
    rw [if_neg ha]
    by_cases hr : s.r < 0
    · have hb : (decide (0 ≤ s.l) && decide (s.r < 0)) = true := by simp; omega
      rw [hb] at c2
      rw [if_pos hr]
      refine Ctr.of (n := 17) (rs := [.tmp 2]) Tryz.func60 rfl rfl Tryz.ntmps60 rfl rfl (by kernel_rfl) Tryz.checked.mixed ?_
      simp (disch := first | omega | decide +kernel) only [D.step, D.ints, el_ints, el_intss, el_steps, wrap_of, Int.toNat_natCast, toNat_pred, Int.toNat_zero, Nat.sub_zero, List.drop_zero, ← List.map_take, ← List.map_drop, go_sem, Nat.reduceEqDiff, Nat.reduceLT, Nat.reduceAdd, Nat.reduceMul, Nat.reduceSub, ↓reduceIte, reduceCtorEq, Nat.reduceLeDiff, Nat.reduceSubDiff, Nat.reduceBEq]
      (repeat' (first | (refine gsel_split (fun h => ?_) (fun h => ?_) <;> (have h' := h) <;> (try simp only [decide_eq_true_eq, decide_eq_false_iff_not, Bool.not_eq_true', Bool.not_eq_false', bne_iff_ne, ne_eq, beq_iff_eq, bne_eq_false_iff_eq, beq_eq_false_iff_ne, Int.ofNat_lt, Int.ofNat_le, Int.not_lt, Int.not_le, Decidable.not_not, Bool.and_eq_true, Bool.or_eq_true, Bool.or_eq_false_iff, gt_iff_lt, ge_iff_le] at h') <;> simp (disch := first | omega | decide +kernel) only [h, el_ints, el_intss, el_steps, wrap_of, Int.toNat_natCast, toNat_pred, Int.toNat_zero, Nat.sub_zero, List.drop_zero, ← List.map_take, ← List.map_drop, D.step, D.ints, go_sem, Nat.reduceEqDiff, Nat.reduceLT, Nat.reduceAdd, Nat.reduceMul, Nat.reduceSub, ↓reduceIte, reduceCtorEq, Nat.reduceLeDiff, Nat.reduceSubDiff, Nat.reduceBEq] <;> clear h) | ((first | refine callX_new (c1) rfl (by decide) ?_ | refine callY_new (c1) rfl ?_ | refine callX_new (c2) rfl (by decide) ?_ | refine callY_new (c2) rfl ?_ | refine hE _ _ ret_ne ?_ | refine hE _ _ exit_ne ?_) <;> try simp (disch := first | omega | decide +kernel) only [el_ints, el_intss, el_steps, wrap_of, Int.toNat_natCast, toNat_pred, Int.toNat_zero, Nat.sub_zero, List.drop_zero, ← List.map_take, ← List.map_drop, D.step, D.ints, go_sem, Nat.reduceEqDiff, Nat.reduceLT, Nat.reduceAdd, Nat.reduceMul, Nat.reduceSub, ↓reduceIte, reduceCtorEq, Nat.reduceLeDiff, Nat.reduceSubDiff, Nat.reduceBEq]) | (refine hN _ ?_ ?_ (Wk.auto (by simp [extraK, lk, killL, St.kill, wipeO, wipeS, AV.has, AV.hasL, AO.wipe, List.map_set, updSt, insL, dropS, ins]) (by simp [extraK, lk, killL, St.kill, wipeO, wipeS, AV.has, AV.hasL, AO.wipe, List.map_set, updSt, insL, dropS, ins]))) | (with_reducible refine And.intro ?_ ?_) | (with_reducible omega) | (exact ok_ints) | (exact cells_ints) | (exact no_mem) | (with_reducible exact plain_ints) | (refine le_maxLen ?_; omega) | (refine List.forall_mem_cons.2 ⟨?_, ?_⟩) | (simp only [go_sem, List.length_cons, List.length_nil, Nat.reduceAdd, Nat.reduceLT, Nat.zero_lt_succ, and_self, List.mem_cons, List.not_mem_nil, or_false, forall_eq]; done)))
      all_goals (first | exact ret_s1 [2] rfl | exact ret_s1 [11] rfl | exact ret_s1 [16] rfl)
    · have hb : (decide (0 ≤ s.l) && decide (s.r < 0)) = false := by simp; omega
      rw [hb] at c2
      rw [if_neg hr]
      refine Ctr.of (n := 17) (rs := [.tmp 2]) Tryz.func60 rfl rfl Tryz.ntmps60 rfl rfl (by kernel_rfl) Tryz.checked.mixed ?_
      simp (disch := first | omega | decide +kernel) only [D.step, D.ints, el_ints, el_intss, el_steps, wrap_of, Int.toNat_natCast, toNat_pred, Int.toNat_zero, Nat.sub_zero, List.drop_zero, ← List.map_take, ← List.map_drop, go_sem, Nat.reduceEqDiff, Nat.reduceLT, Nat.reduceAdd, Nat.reduceMul, Nat.reduceSub, ↓reduceIte, reduceCtorEq, Nat.reduceLeDiff, Nat.reduceSubDiff, Nat.reduceBEq]
      (repeat' (first | (refine gsel_split (fun h => ?_) (fun h => ?_) <;> (have h' := h) <;> (try simp only [decide_eq_true_eq, decide_eq_false_iff_not, Bool.not_eq_true', Bool.not_eq_false', bne_iff_ne, ne_eq, beq_iff_eq, bne_eq_false_iff_eq, beq_eq_false_iff_ne, Int.ofNat_lt, Int.ofNat_le, Int.not_lt, Int.not_le, Decidable.not_not, Bool.and_eq_true, Bool.or_eq_true, Bool.or_eq_false_iff, gt_iff_lt, ge_iff_le] at h') <;> simp (disch := first | omega | decide +kernel) only [h, el_ints, el_intss, el_steps, wrap_of, Int.toNat_natCast, toNat_pred, Int.toNat_zero, Nat.sub_zero, List.drop_zero, ← List.map_take, ← List.map_drop, D.step, D.ints, go_sem, Nat.reduceEqDiff, Nat.reduceLT, Nat.reduceAdd, Nat.reduceMul, Nat.reduceSub, ↓reduceIte, reduceCtorEq, Nat.reduceLeDiff, Nat.reduceSubDiff, Nat.reduceBEq] <;> clear h) | ((first | refine callX_new (c1) rfl (by decide) ?_ | refine callY_new (c1) rfl ?_ | refine callX_new (c2) rfl (by decide) ?_ | refine callY_new (c2) rfl ?_ | refine hE _ _ ret_ne ?_ | refine hE _ _ exit_ne ?_) <;> try simp (disch := first | omega | decide +kernel) only [el_ints, el_intss, el_steps, wrap_of, Int.toNat_natCast, toNat_pred, Int.toNat_zero, Nat.sub_zero, List.drop_zero, ← List.map_take, ← List.map_drop, D.step, D.ints, go_sem, Nat.reduceEqDiff, Nat.reduceLT, Nat.reduceAdd, Nat.reduceMul, Nat.reduceSub, ↓reduceIte, reduceCtorEq, Nat.reduceLeDiff, Nat.reduceSubDiff, Nat.reduceBEq]) | (refine hN _ ?_ ?_ (Wk.auto (by simp [extraK, lk, killL, St.kill, wipeO, wipeS, AV.has, AV.hasL, AO.wipe, List.map_set, updSt, insL, dropS, ins]) (by simp [extraK, lk, killL, St.kill, wipeO, wipeS, AV.has, AV.hasL, AO.wipe, List.map_set, updSt, insL, dropS, ins]))) | (with_reducible refine And.intro ?_ ?_) | (with_reducible omega) | (exact ok_ints) | (exact cells_ints) | (exact no_mem) | (with_reducible exact plain_ints) | (refine le_maxLen ?_; omega) | (refine List.forall_mem_cons.2 ⟨?_, ?_⟩) | (simp only [go_sem, List.length_cons, List.length_nil, Nat.reduceAdd, Nat.reduceLT, Nat.zero_lt_succ, and_self, List.mem_cons, List.not_mem_nil, or_false, forall_eq]; done)))
      all_goals (first | exact ret_s1 [2] rfl | exact ret_s1 [11] rfl | exact ret_s1 [16] rfl)
theorem l8Premises_ok (s : Step) : Ctr Tryz.prog 58 [D.step s] true (.d (.ints (premI s))) [] := by
  have c1 := l8Axiom_ok s
  have c2 := l8Resolvent_ok s
  unfold premI
  by_cases ha : s.l < 0
  · rw [decide_eq_true ha] at c1
    rw [if_pos ha]
    refine Ctr.of (n := 18) (rs := [.tmp 2]) Tryz.func58 rfl rfl Tryz.ntmps58 rfl rfl (by kernel_rfl) Tryz.checked.mixed ?_
    simp (disch := first | omega | decide +kernel) only [D.step, D.ints, el_ints, el_intss, el_steps, wrap_of, Int.toNat_natCast, toNat_pred, Int.toNat_zero, Nat.sub_zero, List.drop_zero, ← List.map_take, ← List.map_drop, go_sem, Nat.reduceEqDiff, Nat.reduceLT, Nat.reduceAdd, Nat.reduceMul, Nat.reduceSub, ↓reduceIte, reduceCtorEq, Nat.reduceLeDiff, Nat.reduceSubDiff, Nat.reduceBEq]
    (repeat' (first | (refine gsel_split (fun h => ?_) (fun h => ?_) <;> (have h' := h) <;> (try simp only [decide_eq_true_eq, decide_eq_false_iff_not, Bool.not_eq_true', Bool.not_eq_false', bne_iff_ne, ne_eq, beq_iff_eq, bne_eq_false_iff_eq, beq_eq_false_iff_ne, Int.ofNat_lt, Int.ofNat_le, Int.not_lt, Int.not_le, Decidable.not_not, Bool.and_eq_true, Bool.or_eq_true, Bool.or_eq_false_iff, gt_iff_lt, ge_iff_le] at h') <;> simp (disch := first | omega | decide +kernel) only [h, el_ints, el_intss, el_steps, wrap_of, Int.toNat_natCast, toNat_pred, Int.toNat_zero, Nat.sub_zero, List.drop_zero, ← List.map_take, ← List.map_drop, D.step, D.ints, go_sem, Nat.reduceEqDiff, Nat.reduceLT, Nat.reduceAdd, Nat.reduceMul, Nat.reduceSub, ↓reduceIte, reduceCtorEq, Nat.reduceLeDiff, Nat.reduceSubDiff, Nat.reduceBEq] <;> clear h) | ((first | refine callX_new (c1) rfl (by decide) ?_ | refine callY_new (c1) rfl ?_ | refine callX_new (c2) rfl (by decide) ?_ | refine callY_new (c2) rfl ?_ | refine hE _ _ ret_ne ?_ | refine hE _ _ exit_ne ?_) <;> try simp (disch := first | omega | decide +kernel) only [el_ints, el_intss, el_steps, wrap_of, Int.toNat_natCast, toNat_pred, Int.toNat_zero, Nat.sub_zero, List.drop_zero, ← List.map_take, ← List.map_drop, D.step, D.ints, go_sem, Nat.reduceEqDiff, Nat.reduceLT, Nat.reduceAdd, Nat.reduceMul, Nat.reduceSub, ↓reduceIte, reduceCtorEq, Nat.reduceLeDiff, Nat.reduceSubDiff, Nat.reduceBEq]) | (refine hN _ ?_ ?_ (Wk.auto (by simp [extraK, lk, killL, St.kill, wipeO, wipeS, AV.has, AV.hasL, AO.wipe, List.map_set, updSt, insL, dropS, ins]) (by simp [extraK, lk, killL, St.kill, wipeO, wipeS, AV.has, AV.hasL, AO.wipe, List.map_set, updSt, insL, dropS, ins]))) | (with_reducible refine And.intro ?_ ?_) | (with_reducible omega) | (exact ok_ints) | (exact cells_ints) | (exact no_mem) | (with_reducible exact plain_ints) | (refine le_maxLen ?_; omega) | (refine List.forall_mem_cons.2 ⟨?_, ?_⟩) | (simp only [go_sem, List.length_cons, List.length_nil, Nat.reduceAdd, Nat.reduceLT, Nat.zero_lt_succ, and_self, List.mem_cons, List.not_mem_nil, or_false, forall_eq]; done)))
    all_goals (exact ret_s1 [6] rfl)
  · rw [decide_eq_false ha] at c1
    rw [if_neg ha]
    by_cases hr : s.r < 0
    · have hb : (decide (0 ≤ s.l) && decide (0 ≤ s.r)) = false := by simp; omega
      rw [hb] at c2
      rw [if_pos hr]
      refine Ctr.of (n := 18) (rs := [.tmp 2]) Tryz.func58 rfl rfl Tryz.ntmps58 rfl rfl (by kernel_rfl) Tryz.checked.mixed ?_
      simp (disch := first | omega | decide +kernel) only [D.step, D.ints, el_ints, el_intss, el_steps, wrap_of, Int.toNat_natCast, toNat_pred, Int.toNat_zero, Nat.sub_zero, List.drop_zero, ← List.map_take, ← List.map_drop, go_sem, Nat.reduceEqDiff, Nat.reduceLT, Nat.reduceAdd, Nat.reduceMul, Nat.reduceSub, ↓reduceIte, reduceCtorEq, Nat.reduceLeDiff, Nat.reduceSubDiff, Nat.reduceBEq]
      (repeat' (first | (refine gsel_split (fun h => ?_) (fun h => ?_) <;> (have h' := h) <;> (try simp only [decide_eq_true_eq, decide_eq_false_iff_not, Bool.not_eq_true', Bool.not_eq_false', bne_iff_ne, ne_eq, beq_iff_eq, bne_eq_false_iff_eq, beq_eq_false_iff_ne, Int.ofNat_lt, Int.ofNat_le, Int.not_lt, Int.not_le, Decidable.not_not, Bool.and_eq_true, Bool.or_eq_true, Bool.or_eq_false_iff, gt_iff_lt, ge_iff_le] at h') <;> simp (disch := first | omega | decide +kernel) only [h, el_ints, el_intss, el_steps, wrap_of, Int.toNat_natCast, toNat_pred, Int.toNat_zero, Nat.sub_zero, List.drop_zero, ← List.map_take, ← List.map_drop, D.step, D.ints, go_sem, Nat.reduceEqDiff, Nat.reduceLT, Nat.reduceAdd, Nat.reduceMul, Nat.reduceSub, ↓reduceIte, reduceCtorEq, Nat.reduceLeDiff, Nat.reduceSubDiff, Nat.reduceBEq] <;> clear h) | ((first | refine callX_new (c1) rfl (by decide) ?_ | refine callY_new (c1) rfl ?_ | refine callX_new (c2) rfl (by decide) ?_ | refine callY_new (c2) rfl ?_ | refine hE _ _ ret_ne ?_ | refine hE _ _ exit_ne ?_) <;> try simp (disch := first | omega | decide +kernel) only [el_ints, el_intss, el_steps, wrap_of, Int.toNat_natCast, toNat_pred, Int.toNat_zero, Nat.sub_zero, List.drop_zero, ← List.map_take, ← List.map_drop, D.step, D.ints, go_sem, Nat.reduceEqDiff, Nat.reduceLT, Nat.reduceAdd, Nat.reduceMul, Nat.reduceSub, ↓reduceIte, reduceCtorEq, Nat.reduceLeDiff, Nat.reduceSubDiff, Nat.reduceBEq]) | (refine hN _ ?_ ?_ (Wk.auto (by simp [extraK, lk, killL, St.kill, wipeO, wipeS, AV.has, AV.hasL, AO.wipe, List.map_set, updSt, insL, dropS, ins]) (by simp [extraK, lk, killL, St.kill, wipeO, wipeS, AV.has, AV.hasL, AO.wipe, List.map_set, updSt, insL, dropS, ins]))) | (with_reducible refine And.intro ?_ ?_) | (with_reducible omega) | (exact ok_ints) | (exact cells_ints) | (exact no_mem) | (with_reducible exact plain_ints) | (refine le_maxLen ?_; omega) | (refine List.forall_mem_cons.2 ⟨?_, ?_⟩) | (simp only [go_sem, List.length_cons, List.length_nil, Nat.reduceAdd, Nat.reduceLT, Nat.zero_lt_succ, and_self, List.mem_cons, List.not_mem_nil, or_false, forall_eq]; done)))
      all_goals (exact ret_s1 [17] rfl)
    · have hb : (decide (0 ≤ s.l) && decide (0 ≤ s.r)) = true := by simp; omega
      rw [hb] at c2
      rw [if_neg hr]
      refine Ctr.of (n := 18) (rs := [.tmp 2]) Tryz.func58 rfl rfl Tryz.ntmps58 rfl rfl (by kernel_rfl) Tryz.checked.mixed ?_
      simp (disch := first | omega | decide +kernel) only [D.step, D.ints, el_ints, el_intss, el_steps, wrap_of, Int.toNat_natCast, toNat_pred, Int.toNat_zero, Nat.sub_zero, List.drop_zero, ← List.map_take, ← List.map_drop, go_sem, Nat.reduceEqDiff, Nat.reduceLT, Nat.reduceAdd, Nat.reduceMul, Nat.reduceSub, ↓reduceIte, reduceCtorEq, Nat.reduceLeDiff, Nat.reduceSubDiff, Nat.reduceBEq]
      (repeat' (first | (refine gsel_split (fun h => ?_) (fun h => ?_) <;> (have h' := h) <;> (try simp only [decide_eq_true_eq, decide_eq_false_iff_not, Bool.not_eq_true', Bool.not_eq_false', bne_iff_ne, ne_eq, beq_iff_eq, bne_eq_false_iff_eq, beq_eq_false_iff_ne, Int.ofNat_lt, Int.ofNat_le, Int.not_lt, Int.not_le, Decidable.not_not, Bool.and_eq_true, Bool.or_eq_true, Bool.or_eq_false_iff, gt_iff_lt, ge_iff_le] at h') <;> simp (disch := first | omega | decide +kernel) only [h, el_ints, el_intss, el_steps, wrap_of, Int.toNat_natCast, toNat_pred, Int.toNat_zero, Nat.sub_zero, List.drop_zero, ← List.map_take, ← List.map_drop, D.step, D.ints, go_sem, Nat.reduceEqDiff, Nat.reduceLT, Nat.reduceAdd, Nat.reduceMul, Nat.reduceSub, ↓reduceIte, reduceCtorEq, Nat.reduceLeDiff, Nat.reduceSubDiff, Nat.reduceBEq] <;> clear h) | ((first | refine callX_new (c1) rfl (by decide) ?_ | refine callY_new (c1) rfl ?_ | refine callX_new (c2) rfl (by decide) ?_ | refine callY_new (c2) rfl ?_ | refine hE _ _ ret_ne ?_ | refine hE _ _ exit_ne ?_) <;> try simp (disch := first | omega | decide +kernel) only [el_ints, el_intss, el_steps, wrap_of, Int.toNat_natCast, toNat_pred, Int.toNat_zero, Nat.sub_zero, List.drop_zero, ← List.map_take, ← List.map_drop, D.step, D.ints, go_sem, Nat.reduceEqDiff, Nat.reduceLT, Nat.reduceAdd, Nat.reduceMul, Nat.reduceSub, ↓reduceIte, reduceCtorEq, Nat.reduceLeDiff, Nat.reduceSubDiff, Nat.reduceBEq]) | (refine hN _ ?_ ?_ (Wk.auto (by simp [extraK, lk, killL, St.kill, wipeO, wipeS, AV.has, AV.hasL, AO.wipe, List.map_set, updSt, insL, dropS, ins]) (by simp [extraK, lk, killL, St.kill, wipeO, wipeS, AV.has, AV.hasL, AO.wipe, List.map_set, updSt, insL, dropS, ins]))) | (with_reducible refine And.intro ?_ ?_) | (with_reducible omega) | (exact ok_ints) | (exact cells_ints) | (exact no_mem) | (with_reducible exact plain_ints) | (refine le_maxLen ?_; omega) | (refine List.forall_mem_cons.2 ⟨?_, ?_⟩) | (simp only [go_sem, List.length_cons, List.length_nil, Nat.reduceAdd, Nat.reduceLT, Nat.zero_lt_succ, and_self, List.mem_cons, List.not_mem_nil, or_false, forall_eq]; done)))
      all_goals (exact ret_s1 [14] rfl)
/-- One more at a place. -/
def incI (l : List Int) (k : Int) : List Int := l.set k.toNat (l.getD k.toNat 0 + 1)
def usesS (l : List Int) (s : Step) : List Int := (premI s).foldl incI l
def usesI (steps : List Step) : List Int := steps.foldl usesS (List.replicate steps.length 0)
theorem premI_fine {steps : List Step} {k : Nat} (hf : FineS steps k) (j : Nat) (hj : j < (premI (steps.getD k Step.z)).length) : 0 ≤ (premI (steps.getD k Step.z)).getD j 0 ∧ (premI (steps.getD k Step.z)).getD j 0 < k := by
  unfold FineS at hf
  unfold premI at *
  generalize steps.getD k Step.z = s at *
  split at hj
  · simp at hj
  · rename_i h1
    rw [if_neg h1]
    split at hj
    · rename_i h2
      rw [if_pos h2]
      simp only [List.length_cons, List.length_nil] at hj
      obtain rfl : j = 0 := by omega
      simp only [List.getD_cons_zero]; omega
    · rename_i h2
      rw [if_neg h2]
      simp only [List.length_cons, List.length_nil] at hj
      obtain rfl | rfl : j = 0 ∨ j = 1 := by omega
      · simp only [List.getD_cons_zero]; omega
      · simp only [List.getD_cons_zero, List.getD_cons_succ]; omega
theorem premI_len (s : Step) : (premI s).length ≤ 2 := by
  unfold premI; split
  · simp
  · split <;> simp
/-! ### The greatest -/
def maxI (xs : List Int) : Int := (xs.drop 1).foldl max (xs.getD 0 0)
end Abs.Y
