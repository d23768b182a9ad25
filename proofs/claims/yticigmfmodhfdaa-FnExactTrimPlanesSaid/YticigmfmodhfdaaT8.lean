/- What functions of this program compute, as contracts over plain data, with what the proofs need of them. No condition. -/
import Derived.Test.YticigmfmodhfdaaT3
import Derived.Test.YticigmfmodhfdaaT4
import Derived.Test.YticigmfmodhfdaaAbsBox
set_option linter.all false
namespace Abs.Y
open Go Go.Proofs Abs
set_option maxRecDepth 100000

/-! ### The reference's step -/
section
variable {u : Int} {cs : List (List Int)} {st : List PSt} {k : Nat} (hu : okVars u = true) (hk : k < st.length) (hl : st.length ≤ 1048576) (hx : ∀ j, (st.getD j PSt.z).q.co.length ≤ 1048576)
    (hcl : cs.length ≤ 1048576) (hcs : ∀ c ∈ cs, okClause u c = true) (hcx : ∀ c ∈ cs, c.length ≤ 1048576)
include hu hk hl hx hcl hcs hcx
set_option maxHeartbeats 4000000 in
theorem l16Correct_no (hq : okPl u (st.getD k PSt.z).q = false) : Ctr Try.prog 220 [.agg [.int .i64 u, .slice (cs.map D.ints)], .slice (st.map D.pst), .int .i64 k] false (.d (.bool (corrP u cs st k))) [] := by
  have hes : el (st.map D.pst) k = D.pst (st.getD k PSt.z) := el_pst hk
  have hxk := hx k
  have c1 := l16Plane_ok u (st.getD k PSt.z).q hu (by omega)
  unfold corrP
  rw [hq] at c1 ⊢
  generalize st.getD k PSt.z = s at *
  refine Ctr.of (n := 231) (rs := [.tmp 6]) Try.func220 rfl rfl Try.ntmps220 rfl rfl (by kernel_rfl) Try.checked.mixed ?_
  simp (disch := first | omega | decide +kernel) only [hes, D.ints, go_sem, Nat.reduceEqDiff, Nat.reduceLT, Nat.reduceAdd, Nat.reduceMul, Nat.reduceSub, ↓reduceIte, reduceCtorEq, Nat.reduceLeDiff, Nat.reduceSubDiff, Nat.reduceBEq]
  (repeat' (first | (refine gsel_split (fun h => ?_) (fun h => ?_) <;> (have h' := h) <;> (try simp only [decide_eq_true_eq, decide_eq_false_iff_not, Bool.not_eq_true', Bool.not_eq_false', bne_iff_ne, ne_eq, beq_iff_eq, bne_eq_false_iff_eq, beq_eq_false_iff_ne, Int.ofNat_lt, Int.ofNat_le, Int.not_lt, Int.not_le, Decidable.not_not, Bool.and_eq_true, Bool.or_eq_true, Bool.or_eq_false_iff, gt_iff_lt, ge_iff_le] at h') <;> first | (exfalso; omega) | (simp (disch := first | omega | decide +kernel) only [h, D.ints, hes, go_sem, Nat.reduceEqDiff, Nat.reduceLT, Nat.reduceAdd, Nat.reduceMul, Nat.reduceSub, ↓reduceIte, reduceCtorEq, Nat.reduceLeDiff, Nat.reduceSubDiff, Nat.reduceBEq] <;> clear h)) | ((first | refine callX_new (c1) rfl (by decide) ?_ | refine callY_new (c1) rfl ?_ | refine hE _ _ ret_ne ?_ | refine hE _ _ exit_ne ?_) <;> try simp (disch := first | omega | decide +kernel) only [D.ints, hes, go_sem, Nat.reduceEqDiff, Nat.reduceLT, Nat.reduceAdd, Nat.reduceMul, Nat.reduceSub, ↓reduceIte, reduceCtorEq, Nat.reduceLeDiff, Nat.reduceSubDiff, Nat.reduceBEq]) | (refine hN _ ?_ ?_ Wk.kk) | (with_reducible refine And.intro ?_ ?_) | (with_reducible omega) | (exact ok_ints) | (exact cells_ints) | (exact no_mem) | (with_reducible exact plain_ints) | (refine le_maxLen ?_; omega) | (refine List.forall_mem_cons.2 ⟨?_, ?_⟩) | (simp only [go_sem, Nat.reduceAdd, Nat.reduceLT, List.mem_cons, List.not_mem_nil, forall_eq]; done)))
  all_goals (first | rfl | trace_state)

set_option maxHeartbeats 16000000 in
theorem l16Correct_1 (s : PSt) (hs : st.getD k PSt.z = s) (hq : okPl u s.q = true) (qa : PSt) (w b : Bool) (hw : (decide (0 ≤ s.l) && decide (s.l ≤ (k : Int) - 1)) = w) (hqa : w = true → st.getD s.l.toNat PSt.z = qa) (hb : w = true → okPl u qa.q = b) (b2 : Bool) (q2 : Pl) (hr : s.ru = 1) : Ctr Try.prog 220 [.agg [.int .i64 u, .slice (cs.map D.ints)], .slice (st.map D.pst), .int .i64 k] false (.d (.bool (decide (dueQ u cs s (w && b) (if (w && b) = true then qa.q else ⟨[], 0⟩) b2 q2 = some s.q)))) [] := by
  have huv := okVars_iff.1 hu
  have hes : el (st.map D.pst) k = D.pst s := by rw [← hs]; exact el_pst hk
  have hxk := hx k
  rw [hs] at hxk
  have c1 := l16Plane_ok u s.q hu (by omega)
  rw [hq] at c1
  have a1 := l1In_ok s.l 0 ((k : Int) - 1)
  rw [hw] at a1
  have hesA : w = true → el (st.map D.pst) s.l.toNat = D.pst qa := fun h => by
    rw [h] at hw
    simp only [Bool.and_eq_true, decide_eq_true_eq] at hw
    rw [← hqa h]; exact el_pst (by omega)
  have p1 : w = true → Ctr Try.prog 264 [.int .i64 u, D.pl qa.q] false (.d (.bool b)) [] := fun h => by
    have := l16Plane_ok u qa.q hu (by have := hx s.l.toNat; rw [hqa h] at this; omega)
    rw [hb h] at this; exact this
  clear hqa hb
  by_cases hc : c01 cs s
  · have e : ∀ B1 Q1, dueQ u cs s B1 Q1 b2 q2 = some (planI u (cs.getD s.l.toNat [])) := fun B1 Q1 => by unfold dueQ; rw [if_pos hc]
    rw [e]
    obtain ⟨h1, ⟨hl0, hl1⟩, hrr, hn⟩ := hc
    have w1 := l1In_ok s.l 0 ((cs.length : Int) - 1)
    rw [decide_eq_true hl0, decide_eq_true hl1] at w1
    have hm : cs.getD s.l.toNat [] ∈ cs := getD_mem (by omega)
    have hec : el (cs.map D.ints) s.l.toNat = D.ints (cs.getD s.l.toNat []) := el_map (f := D.ints) [] (by omega)
    have v1 := l16OfClause_ok u (cs.getD s.l.toNat []) (by have := hcx _ hm; omega) (lits_ok (hcs _ hm))
    have v2 := l16Same_ok s.q (planI u (cs.getD s.l.toNat [])) (by omega)
    rw [show decide (some (planI u (cs.getD s.l.toNat [])) = some s.q) = decide (s.q = planI u (cs.getD s.l.toNat [])) by simp only [Option.some.injEq, eq_comm]]
    generalize decide (s.q = planI u (cs.getD s.l.toNat [])) = res at *
    generalize cs.getD s.l.toNat [] = c at *
    cases w with
    | false =>
      refine Ctr.of (n := 231) (rs := [.tmp 6]) Try.func220 rfl rfl Try.ntmps220 rfl rfl (by kernel_rfl) Try.checked.mixed ?_
      simp (disch := first | omega | decide +kernel) only [hes, D.ints, go_sem, Nat.reduceEqDiff, Nat.reduceLT, Nat.reduceAdd, Nat.reduceMul, Nat.reduceSub, ↓reduceIte, reduceCtorEq, Nat.reduceLeDiff, Nat.reduceSubDiff, Nat.reduceBEq]
      (repeat' (first | (refine gsel_split (fun h => ?_) (fun h => ?_) <;> (have h' := h) <;> (try simp only [decide_eq_true_eq, decide_eq_false_iff_not, Bool.not_eq_true', Bool.not_eq_false', bne_iff_ne, ne_eq, beq_iff_eq, bne_eq_false_iff_eq, beq_eq_false_iff_ne, Int.ofNat_lt, Int.ofNat_le, Int.not_lt, Int.not_le, Decidable.not_not, Bool.and_eq_true, Bool.or_eq_true, Bool.or_eq_false_iff, gt_iff_lt, ge_iff_le] at h') <;> first | (exfalso; omega) | (simp (disch := first | omega | decide +kernel) only [h, D.ints, hes, hr, hec, go_sem, Nat.reduceEqDiff, Nat.reduceLT, Nat.reduceAdd, Nat.reduceMul, Nat.reduceSub, ↓reduceIte, reduceCtorEq, Nat.reduceLeDiff, Nat.reduceSubDiff, Nat.reduceBEq] <;> clear h)) | ((first | refine callX_new (c1) rfl (by decide) ?_ | refine callY_new (c1) rfl ?_ | refine callX_new (a1) rfl (by decide) ?_ | refine callY_new (a1) rfl ?_ | refine callX_new (w1) rfl (by decide) ?_ | refine callY_new (w1) rfl ?_ | refine callX_shared (v1) rfl (by decide) ?_ | refine callY_shared (v1) rfl ?_ | refine callX_new (v2) rfl (by decide) ?_ | refine callY_new (v2) rfl ?_ | refine hE _ _ ret_ne ?_ | refine hE _ _ exit_ne ?_) <;> try simp (disch := first | omega | decide +kernel) only [D.ints, hes, hr, hec, go_sem, Nat.reduceEqDiff, Nat.reduceLT, Nat.reduceAdd, Nat.reduceMul, Nat.reduceSub, ↓reduceIte, reduceCtorEq, Nat.reduceLeDiff, Nat.reduceSubDiff, Nat.reduceBEq]) | (refine hN _ ?_ ?_ Wk.kk) | (with_reducible refine And.intro ?_ ?_) | (with_reducible omega) | (exact ok_ints) | (exact cells_ints) | (exact no_mem) | (with_reducible exact plain_ints) | (refine le_maxLen ?_; omega) | (refine List.forall_mem_cons.2 ⟨?_, ?_⟩) | (simp only [go_sem, Nat.reduceAdd, Nat.reduceLT, List.mem_cons, List.not_mem_nil, forall_eq]; done)))
      all_goals (first | rfl | omega | trace_state)
    | true =>
      have hesA := hesA rfl
      have p1 := p1 rfl
      simp only [Bool.and_eq_true, decide_eq_true_eq] at hw
      refine Ctr.of (n := 231) (rs := [.tmp 6]) Try.func220 rfl rfl Try.ntmps220 rfl rfl (by kernel_rfl) Try.checked.mixed ?_
      simp (disch := first | omega | decide +kernel) only [hes, D.ints, go_sem, Nat.reduceEqDiff, Nat.reduceLT, Nat.reduceAdd, Nat.reduceMul, Nat.reduceSub, ↓reduceIte, reduceCtorEq, Nat.reduceLeDiff, Nat.reduceSubDiff, Nat.reduceBEq]
      (repeat' (first | (refine gsel_split (fun h => ?_) (fun h => ?_) <;> (have h' := h) <;> (try simp only [decide_eq_true_eq, decide_eq_false_iff_not, Bool.not_eq_true', Bool.not_eq_false', bne_iff_ne, ne_eq, beq_iff_eq, bne_eq_false_iff_eq, beq_eq_false_iff_ne, Int.ofNat_lt, Int.ofNat_le, Int.not_lt, Int.not_le, Decidable.not_not, Bool.and_eq_true, Bool.or_eq_true, Bool.or_eq_false_iff, gt_iff_lt, ge_iff_le] at h') <;> first | (exfalso; omega) | (simp (disch := first | omega | decide +kernel) only [h, D.ints, hes, hr, hesA, hec, go_sem, Nat.reduceEqDiff, Nat.reduceLT, Nat.reduceAdd, Nat.reduceMul, Nat.reduceSub, ↓reduceIte, reduceCtorEq, Nat.reduceLeDiff, Nat.reduceSubDiff, Nat.reduceBEq] <;> clear h)) | ((first | refine callX_new (c1) rfl (by decide) ?_ | refine callY_new (c1) rfl ?_ | refine callX_new (a1) rfl (by decide) ?_ | refine callY_new (a1) rfl ?_ | refine callX_new (p1) rfl (by decide) ?_ | refine callY_new (p1) rfl ?_ | refine callX_new (w1) rfl (by decide) ?_ | refine callY_new (w1) rfl ?_ | refine callX_shared (v1) rfl (by decide) ?_ | refine callY_shared (v1) rfl ?_ | refine callX_new (v2) rfl (by decide) ?_ | refine callY_new (v2) rfl ?_ | refine hE _ _ ret_ne ?_ | refine hE _ _ exit_ne ?_) <;> try simp (disch := first | omega | decide +kernel) only [D.ints, hes, hr, hesA, hec, go_sem, Nat.reduceEqDiff, Nat.reduceLT, Nat.reduceAdd, Nat.reduceMul, Nat.reduceSub, ↓reduceIte, reduceCtorEq, Nat.reduceLeDiff, Nat.reduceSubDiff, Nat.reduceBEq]) | (refine hN _ ?_ ?_ Wk.kk) | (with_reducible refine And.intro ?_ ?_) | (with_reducible omega) | (exact ok_ints) | (exact cells_ints) | (exact no_mem) | (with_reducible exact plain_ints) | (refine le_maxLen ?_; omega) | (refine List.forall_mem_cons.2 ⟨?_, ?_⟩) | (simp only [go_sem, Nat.reduceAdd, Nat.reduceLT, List.mem_cons, List.not_mem_nil, forall_eq]; done)))
      all_goals (first | rfl | omega | trace_state)
  · have e : ∀ B1 Q1, dueQ u cs s B1 Q1 b2 q2 = none := fun B1 Q1 => by
      unfold dueQ
      rw [if_neg hc, if_neg (show ¬ c02 u s from fun h => by have := h.1; omega), if_neg (show ¬ c03 u s from fun h => by have := h.1; omega), if_neg fun h => by have := h.1; omega, if_neg fun h => by have := h.1; omega, if_neg fun h => by have := h.1; omega]
    rw [e, show decide ((none : Option Pl) = some s.q) = false from rfl]
    unfold c01 at hc
    have w1 := l1In_ok s.l 0 ((cs.length : Int) - 1)
    cases w with
    | false =>
      refine Ctr.of (n := 231) (rs := [.tmp 6]) Try.func220 rfl rfl Try.ntmps220 rfl rfl (by kernel_rfl) Try.checked.mixed ?_
      simp (disch := first | omega | decide +kernel) only [hes, D.ints, go_sem, Nat.reduceEqDiff, Nat.reduceLT, Nat.reduceAdd, Nat.reduceMul, Nat.reduceSub, ↓reduceIte, reduceCtorEq, Nat.reduceLeDiff, Nat.reduceSubDiff, Nat.reduceBEq]
      (repeat' (first | (refine gsel_split (fun h => ?_) (fun h => ?_) <;> (have h' := h) <;> (try simp only [decide_eq_true_eq, decide_eq_false_iff_not, Bool.not_eq_true', Bool.not_eq_false', bne_iff_ne, ne_eq, beq_iff_eq, bne_eq_false_iff_eq, beq_eq_false_iff_ne, Int.ofNat_lt, Int.ofNat_le, Int.not_lt, Int.not_le, Decidable.not_not, Bool.and_eq_true, Bool.or_eq_true, Bool.or_eq_false_iff, gt_iff_lt, ge_iff_le] at h') <;> first | (exfalso; omega) | (simp (disch := first | omega | decide +kernel) only [h, D.ints, hes, hr, go_sem, Nat.reduceEqDiff, Nat.reduceLT, Nat.reduceAdd, Nat.reduceMul, Nat.reduceSub, ↓reduceIte, reduceCtorEq, Nat.reduceLeDiff, Nat.reduceSubDiff, Nat.reduceBEq] <;> clear h)) | ((first | refine callX_new (c1) rfl (by decide) ?_ | refine callY_new (c1) rfl ?_ | refine callX_new (a1) rfl (by decide) ?_ | refine callY_new (a1) rfl ?_ | refine callX_new (w1) rfl (by decide) ?_ | refine callY_new (w1) rfl ?_ | refine hE _ _ ret_ne ?_ | refine hE _ _ exit_ne ?_) <;> try simp (disch := first | omega | decide +kernel) only [D.ints, hes, hr, go_sem, Nat.reduceEqDiff, Nat.reduceLT, Nat.reduceAdd, Nat.reduceMul, Nat.reduceSub, ↓reduceIte, reduceCtorEq, Nat.reduceLeDiff, Nat.reduceSubDiff, Nat.reduceBEq]) | (refine hN _ ?_ ?_ Wk.kk) | (with_reducible refine And.intro ?_ ?_) | (with_reducible omega) | (exact ok_ints) | (exact cells_ints) | (exact no_mem) | (with_reducible exact plain_ints) | (refine le_maxLen ?_; omega) | (refine List.forall_mem_cons.2 ⟨?_, ?_⟩) | (simp only [go_sem, Nat.reduceAdd, Nat.reduceLT, List.mem_cons, List.not_mem_nil, forall_eq]; done)))
      all_goals (first | rfl | omega | trace_state)
    | true =>
      have hesA := hesA rfl
      have p1 := p1 rfl
      simp only [Bool.and_eq_true, decide_eq_true_eq] at hw
      refine Ctr.of (n := 231) (rs := [.tmp 6]) Try.func220 rfl rfl Try.ntmps220 rfl rfl (by kernel_rfl) Try.checked.mixed ?_
      simp (disch := first | omega | decide +kernel) only [hes, D.ints, go_sem, Nat.reduceEqDiff, Nat.reduceLT, Nat.reduceAdd, Nat.reduceMul, Nat.reduceSub, ↓reduceIte, reduceCtorEq, Nat.reduceLeDiff, Nat.reduceSubDiff, Nat.reduceBEq]
      (repeat' (first | (refine gsel_split (fun h => ?_) (fun h => ?_) <;> (have h' := h) <;> (try simp only [decide_eq_true_eq, decide_eq_false_iff_not, Bool.not_eq_true', Bool.not_eq_false', bne_iff_ne, ne_eq, beq_iff_eq, bne_eq_false_iff_eq, beq_eq_false_iff_ne, Int.ofNat_lt, Int.ofNat_le, Int.not_lt, Int.not_le, Decidable.not_not, Bool.and_eq_true, Bool.or_eq_true, Bool.or_eq_false_iff, gt_iff_lt, ge_iff_le] at h') <;> first | (exfalso; omega) | (simp (disch := first | omega | decide +kernel) only [h, D.ints, hes, hr, hesA, go_sem, Nat.reduceEqDiff, Nat.reduceLT, Nat.reduceAdd, Nat.reduceMul, Nat.reduceSub, ↓reduceIte, reduceCtorEq, Nat.reduceLeDiff, Nat.reduceSubDiff, Nat.reduceBEq] <;> clear h)) | ((first | refine callX_new (c1) rfl (by decide) ?_ | refine callY_new (c1) rfl ?_ | refine callX_new (a1) rfl (by decide) ?_ | refine callY_new (a1) rfl ?_ | refine callX_new (p1) rfl (by decide) ?_ | refine callY_new (p1) rfl ?_ | refine callX_new (w1) rfl (by decide) ?_ | refine callY_new (w1) rfl ?_ | refine hE _ _ ret_ne ?_ | refine hE _ _ exit_ne ?_) <;> try simp (disch := first | omega | decide +kernel) only [D.ints, hes, hr, hesA, go_sem, Nat.reduceEqDiff, Nat.reduceLT, Nat.reduceAdd, Nat.reduceMul, Nat.reduceSub, ↓reduceIte, reduceCtorEq, Nat.reduceLeDiff, Nat.reduceSubDiff, Nat.reduceBEq]) | (refine hN _ ?_ ?_ Wk.kk) | (with_reducible refine And.intro ?_ ?_) | (with_reducible omega) | (exact ok_ints) | (exact cells_ints) | (exact no_mem) | (with_reducible exact plain_ints) | (refine le_maxLen ?_; omega) | (refine List.forall_mem_cons.2 ⟨?_, ?_⟩) | (simp only [go_sem, Nat.reduceAdd, Nat.reduceLT, List.mem_cons, List.not_mem_nil, forall_eq]; done)))
      all_goals (first | rfl | omega | trace_state)

set_option maxHeartbeats 16000000 in
theorem l16Correct_2 (s : PSt) (hs : st.getD k PSt.z = s) (hq : okPl u s.q = true) (qa : PSt) (w b : Bool) (hw : (decide (0 ≤ s.l) && decide (s.l ≤ (k : Int) - 1)) = w) (hqa : w = true → st.getD s.l.toNat PSt.z = qa) (hb : w = true → okPl u qa.q = b) (b2 : Bool) (q2 : Pl) (hr : s.ru = 2) : Ctr Try.prog 220 [.agg [.int .i64 u, .slice (cs.map D.ints)], .slice (st.map D.pst), .int .i64 k] false (.d (.bool (decide (dueQ u cs s (w && b) (if (w && b) = true then qa.q else ⟨[], 0⟩) b2 q2 = some s.q)))) [] := by
  have huv := okVars_iff.1 hu
  have hes : el (st.map D.pst) k = D.pst s := by rw [← hs]; exact el_pst hk
  have hxk := hx k
  rw [hs] at hxk
  have c1 := l16Plane_ok u s.q hu (by omega)
  rw [hq] at c1
  have a1 := l1In_ok s.l 0 ((k : Int) - 1)
  rw [hw] at a1
  have hesA : w = true → el (st.map D.pst) s.l.toNat = D.pst qa := fun h => by
    rw [h] at hw
    simp only [Bool.and_eq_true, decide_eq_true_eq] at hw
    rw [← hqa h]; exact el_pst (by omega)
  have p1 : w = true → Ctr Try.prog 264 [.int .i64 u, D.pl qa.q] false (.d (.bool b)) [] := fun h => by
    have := l16Plane_ok u qa.q hu (by have := hx s.l.toNat; rw [hqa h] at this; omega)
    rw [hb h] at this; exact this
  clear hqa hb
  by_cases hc : c02 u s
  · have e : ∀ B1 Q1, dueQ u cs s B1 Q1 b2 q2 = some (sgl u s.l 1 0) := fun B1 Q1 => by unfold dueQ; rw [if_neg (show ¬ c01 cs s from fun h => by have := h.1; omega), if_pos hc]
    rw [e]
    obtain ⟨h1, ⟨hl0, hl1⟩, hrr, hn⟩ := hc
    have w1 := l1In_ok s.l 1 u
    rw [decide_eq_true hl0, decide_eq_true hl1] at w1
    have v1 := l16Single_ok u s.l 1 0 huv ⟨hl0, hl1⟩
    have v2 := l16Same_ok s.q (sgl u s.l 1 0) (by omega)
    rw [show decide (some (sgl u s.l 1 0) = some s.q) = decide (s.q = sgl u s.l 1 0) by simp only [Option.some.injEq, eq_comm]]
    generalize decide (s.q = sgl u s.l 1 0) = res at *
    generalize sgl u s.l 1 0 = pp at *
    cases w with
    | false =>
      refine Ctr.of (n := 231) (rs := [.tmp 6]) Try.func220 rfl rfl Try.ntmps220 rfl rfl (by kernel_rfl) Try.checked.mixed ?_
      simp (disch := first | omega | decide +kernel) only [hes, D.ints, go_sem, Nat.reduceEqDiff, Nat.reduceLT, Nat.reduceAdd, Nat.reduceMul, Nat.reduceSub, ↓reduceIte, reduceCtorEq, Nat.reduceLeDiff, Nat.reduceSubDiff, Nat.reduceBEq]
      (repeat' (first | (refine gsel_split (fun h => ?_) (fun h => ?_) <;> (have h' := h) <;> (try simp only [decide_eq_true_eq, decide_eq_false_iff_not, Bool.not_eq_true', Bool.not_eq_false', bne_iff_ne, ne_eq, beq_iff_eq, bne_eq_false_iff_eq, beq_eq_false_iff_ne, Int.ofNat_lt, Int.ofNat_le, Int.not_lt, Int.not_le, Decidable.not_not, Bool.and_eq_true, Bool.or_eq_true, Bool.or_eq_false_iff, gt_iff_lt, ge_iff_le] at h') <;> first | (exfalso; omega) | (simp (disch := first | omega | decide +kernel) only [h, D.ints, hes, hr, go_sem, Nat.reduceEqDiff, Nat.reduceLT, Nat.reduceAdd, Nat.reduceMul, Nat.reduceSub, ↓reduceIte, reduceCtorEq, Nat.reduceLeDiff, Nat.reduceSubDiff, Nat.reduceBEq] <;> clear h)) | ((first | refine callX_new (c1) rfl (by decide) ?_ | refine callY_new (c1) rfl ?_ | refine callX_new (a1) rfl (by decide) ?_ | refine callY_new (a1) rfl ?_ | refine callX_new (w1) rfl (by decide) ?_ | refine callY_new (w1) rfl ?_ | refine callX_shared (v1) rfl (by decide) ?_ | refine callY_shared (v1) rfl ?_ | refine callX_new (v2) rfl (by decide) ?_ | refine callY_new (v2) rfl ?_ | refine hE _ _ ret_ne ?_ | refine hE _ _ exit_ne ?_) <;> try simp (disch := first | omega | decide +kernel) only [D.ints, hes, hr, go_sem, Nat.reduceEqDiff, Nat.reduceLT, Nat.reduceAdd, Nat.reduceMul, Nat.reduceSub, ↓reduceIte, reduceCtorEq, Nat.reduceLeDiff, Nat.reduceSubDiff, Nat.reduceBEq]) | (refine hN _ ?_ ?_ Wk.kk) | (with_reducible refine And.intro ?_ ?_) | (with_reducible omega) | (exact ok_ints) | (exact cells_ints) | (exact no_mem) | (with_reducible exact plain_ints) | (refine le_maxLen ?_; omega) | (refine List.forall_mem_cons.2 ⟨?_, ?_⟩) | (simp only [go_sem, Nat.reduceAdd, Nat.reduceLT, List.mem_cons, List.not_mem_nil, forall_eq]; done)))
      all_goals (first | rfl | omega | trace_state)
    | true =>
      have hesA := hesA rfl
      have p1 := p1 rfl
      simp only [Bool.and_eq_true, decide_eq_true_eq] at hw
      refine Ctr.of (n := 231) (rs := [.tmp 6]) Try.func220 rfl rfl Try.ntmps220 rfl rfl (by kernel_rfl) Try.checked.mixed ?_
      simp (disch := first | omega | decide +kernel) only [hes, D.ints, go_sem, Nat.reduceEqDiff, Nat.reduceLT, Nat.reduceAdd, Nat.reduceMul, Nat.reduceSub, ↓reduceIte, reduceCtorEq, Nat.reduceLeDiff, Nat.reduceSubDiff, Nat.reduceBEq]
      (repeat' (first | (refine gsel_split (fun h => ?_) (fun h => ?_) <;> (have h' := h) <;> (try simp only [decide_eq_true_eq, decide_eq_false_iff_not, Bool.not_eq_true', Bool.not_eq_false', bne_iff_ne, ne_eq, beq_iff_eq, bne_eq_false_iff_eq, beq_eq_false_iff_ne, Int.ofNat_lt, Int.ofNat_le, Int.not_lt, Int.not_le, Decidable.not_not, Bool.and_eq_true, Bool.or_eq_true, Bool.or_eq_false_iff, gt_iff_lt, ge_iff_le] at h') <;> first | (exfalso; omega) | (simp (disch := first | omega | decide +kernel) only [h, D.ints, hes, hr, hesA, go_sem, Nat.reduceEqDiff, Nat.reduceLT, Nat.reduceAdd, Nat.reduceMul, Nat.reduceSub, ↓reduceIte, reduceCtorEq, Nat.reduceLeDiff, Nat.reduceSubDiff, Nat.reduceBEq] <;> clear h)) | ((first | refine callX_new (c1) rfl (by decide) ?_ | refine callY_new (c1) rfl ?_ | refine callX_new (a1) rfl (by decide) ?_ | refine callY_new (a1) rfl ?_ | refine callX_new (p1) rfl (by decide) ?_ | refine callY_new (p1) rfl ?_ | refine callX_new (w1) rfl (by decide) ?_ | refine callY_new (w1) rfl ?_ | refine callX_shared (v1) rfl (by decide) ?_ | refine callY_shared (v1) rfl ?_ | refine callX_new (v2) rfl (by decide) ?_ | refine callY_new (v2) rfl ?_ | refine hE _ _ ret_ne ?_ | refine hE _ _ exit_ne ?_) <;> try simp (disch := first | omega | decide +kernel) only [D.ints, hes, hr, hesA, go_sem, Nat.reduceEqDiff, Nat.reduceLT, Nat.reduceAdd, Nat.reduceMul, Nat.reduceSub, ↓reduceIte, reduceCtorEq, Nat.reduceLeDiff, Nat.reduceSubDiff, Nat.reduceBEq]) | (refine hN _ ?_ ?_ Wk.kk) | (with_reducible refine And.intro ?_ ?_) | (with_reducible omega) | (exact ok_ints) | (exact cells_ints) | (exact no_mem) | (with_reducible exact plain_ints) | (refine le_maxLen ?_; omega) | (refine List.forall_mem_cons.2 ⟨?_, ?_⟩) | (simp only [go_sem, Nat.reduceAdd, Nat.reduceLT, List.mem_cons, List.not_mem_nil, forall_eq]; done)))
      all_goals (first | rfl | omega | trace_state)
  · have e : ∀ B1 Q1, dueQ u cs s B1 Q1 b2 q2 = none := fun B1 Q1 => by
      unfold dueQ
      rw [if_neg (show ¬ c01 cs s from fun h => by have := h.1; omega), if_neg (show ¬ c02 u s from hc), if_neg (show ¬ c03 u s from fun h => by have := h.1; omega), if_neg fun h => by have := h.1; omega, if_neg fun h => by have := h.1; omega, if_neg fun h => by have := h.1; omega]
    rw [e, show decide ((none : Option Pl) = some s.q) = false from rfl]
    unfold c02 at hc
    have w1 := l1In_ok s.l 1 u
    cases w with
    | false =>
      refine Ctr.of (n := 231) (rs := [.tmp 6]) Try.func220 rfl rfl Try.ntmps220 rfl rfl (by kernel_rfl) Try.checked.mixed ?_
      simp (disch := first | omega | decide +kernel) only [hes, D.ints, go_sem, Nat.reduceEqDiff, Nat.reduceLT, Nat.reduceAdd, Nat.reduceMul, Nat.reduceSub, ↓reduceIte, reduceCtorEq, Nat.reduceLeDiff, Nat.reduceSubDiff, Nat.reduceBEq]
      (repeat' (first | (refine gsel_split (fun h => ?_) (fun h => ?_) <;> (have h' := h) <;> (try simp only [decide_eq_true_eq, decide_eq_false_iff_not, Bool.not_eq_true', Bool.not_eq_false', bne_iff_ne, ne_eq, beq_iff_eq, bne_eq_false_iff_eq, beq_eq_false_iff_ne, Int.ofNat_lt, Int.ofNat_le, Int.not_lt, Int.not_le, Decidable.not_not, Bool.and_eq_true, Bool.or_eq_true, Bool.or_eq_false_iff, gt_iff_lt, ge_iff_le] at h') <;> first | (exfalso; omega) | (simp (disch := first | omega | decide +kernel) only [h, D.ints, hes, hr, go_sem, Nat.reduceEqDiff, Nat.reduceLT, Nat.reduceAdd, Nat.reduceMul, Nat.reduceSub, ↓reduceIte, reduceCtorEq, Nat.reduceLeDiff, Nat.reduceSubDiff, Nat.reduceBEq] <;> clear h)) | ((first | refine callX_new (c1) rfl (by decide) ?_ | refine callY_new (c1) rfl ?_ | refine callX_new (a1) rfl (by decide) ?_ | refine callY_new (a1) rfl ?_ | refine callX_new (w1) rfl (by decide) ?_ | refine callY_new (w1) rfl ?_ | refine hE _ _ ret_ne ?_ | refine hE _ _ exit_ne ?_) <;> try simp (disch := first | omega | decide +kernel) only [D.ints, hes, hr, go_sem, Nat.reduceEqDiff, Nat.reduceLT, Nat.reduceAdd, Nat.reduceMul, Nat.reduceSub, ↓reduceIte, reduceCtorEq, Nat.reduceLeDiff, Nat.reduceSubDiff, Nat.reduceBEq]) | (refine hN _ ?_ ?_ Wk.kk) | (with_reducible refine And.intro ?_ ?_) | (with_reducible omega) | (exact ok_ints) | (exact cells_ints) | (exact no_mem) | (with_reducible exact plain_ints) | (refine le_maxLen ?_; omega) | (refine List.forall_mem_cons.2 ⟨?_, ?_⟩) | (simp only [go_sem, Nat.reduceAdd, Nat.reduceLT, List.mem_cons, List.not_mem_nil, forall_eq]; done)))
      all_goals (first | rfl | omega | trace_state)
    | true =>
      have hesA := hesA rfl
      have p1 := p1 rfl
      simp only [Bool.and_eq_true, decide_eq_true_eq] at hw
      refine Ctr.of (n := 231) (rs := [.tmp 6]) Try.func220 rfl rfl Try.ntmps220 rfl rfl (by kernel_rfl) Try.checked.mixed ?_
      simp (disch := first | omega | decide +kernel) only [hes, D.ints, go_sem, Nat.reduceEqDiff, Nat.reduceLT, Nat.reduceAdd, Nat.reduceMul, Nat.reduceSub, ↓reduceIte, reduceCtorEq, Nat.reduceLeDiff, Nat.reduceSubDiff, Nat.reduceBEq]
      (repeat' (first | (refine gsel_split (fun h => ?_) (fun h => ?_) <;> (have h' := h) <;> (try simp only [decide_eq_true_eq, decide_eq_false_iff_not, Bool.not_eq_true', Bool.not_eq_false', bne_iff_ne, ne_eq, beq_iff_eq, bne_eq_false_iff_eq, beq_eq_false_iff_ne, Int.ofNat_lt, Int.ofNat_le, Int.not_lt, Int.not_le, Decidable.not_not, Bool.and_eq_true, Bool.or_eq_true, Bool.or_eq_false_iff, gt_iff_lt, ge_iff_le] at h') <;> first | (exfalso; omega) | (simp (disch := first | omega | decide +kernel) only [h, D.ints, hes, hr, hesA, go_sem, Nat.reduceEqDiff, Nat.reduceLT, Nat.reduceAdd, Nat.reduceMul, Nat.reduceSub, ↓reduceIte, reduceCtorEq, Nat.reduceLeDiff, Nat.reduceSubDiff, Nat.reduceBEq] <;> clear h)) | ((first | refine callX_new (c1) rfl (by decide) ?_ | refine callY_new (c1) rfl ?_ | refine callX_new (a1) rfl (by decide) ?_ | refine callY_new (a1) rfl ?_ | refine callX_new (p1) rfl (by decide) ?_ | refine callY_new (p1) rfl ?_ | refine callX_new (w1) rfl (by decide) ?_ | refine callY_new (w1) rfl ?_ | refine hE _ _ ret_ne ?_ | refine hE _ _ exit_ne ?_) <;> try simp (disch := first | omega | decide +kernel) only [D.ints, hes, hr, hesA, go_sem, Nat.reduceEqDiff, Nat.reduceLT, Nat.reduceAdd, Nat.reduceMul, Nat.reduceSub, ↓reduceIte, reduceCtorEq, Nat.reduceLeDiff, Nat.reduceSubDiff, Nat.reduceBEq]) | (refine hN _ ?_ ?_ Wk.kk) | (with_reducible refine And.intro ?_ ?_) | (with_reducible omega) | (exact ok_ints) | (exact cells_ints) | (exact no_mem) | (with_reducible exact plain_ints) | (refine le_maxLen ?_; omega) | (refine List.forall_mem_cons.2 ⟨?_, ?_⟩) | (simp only [go_sem, Nat.reduceAdd, Nat.reduceLT, List.mem_cons, List.not_mem_nil, forall_eq]; done)))
      all_goals (first | rfl | omega | trace_state)

set_option maxHeartbeats 16000000 in
theorem l16Correct_3 (s : PSt) (hs : st.getD k PSt.z = s) (hq : okPl u s.q = true) (qa : PSt) (w b : Bool) (hw : (decide (0 ≤ s.l) && decide (s.l ≤ (k : Int) - 1)) = w) (hqa : w = true → st.getD s.l.toNat PSt.z = qa) (hb : w = true → okPl u qa.q = b) (b2 : Bool) (q2 : Pl) (hr : s.ru = 3) : Ctr Try.prog 220 [.agg [.int .i64 u, .slice (cs.map D.ints)], .slice (st.map D.pst), .int .i64 k] false (.d (.bool (decide (dueQ u cs s (w && b) (if (w && b) = true then qa.q else ⟨[], 0⟩) b2 q2 = some s.q)))) [] := by
  have huv := okVars_iff.1 hu
  have hes : el (st.map D.pst) k = D.pst s := by rw [← hs]; exact el_pst hk
  have hxk := hx k
  rw [hs] at hxk
  have c1 := l16Plane_ok u s.q hu (by omega)
  rw [hq] at c1
  have a1 := l1In_ok s.l 0 ((k : Int) - 1)
  rw [hw] at a1
  have hesA : w = true → el (st.map D.pst) s.l.toNat = D.pst qa := fun h => by
    rw [h] at hw
    simp only [Bool.and_eq_true, decide_eq_true_eq] at hw
    rw [← hqa h]; exact el_pst (by omega)
  have p1 : w = true → Ctr Try.prog 264 [.int .i64 u, D.pl qa.q] false (.d (.bool b)) [] := fun h => by
    have := l16Plane_ok u qa.q hu (by have := hx s.l.toNat; rw [hqa h] at this; omega)
    rw [hb h] at this; exact this
  clear hqa hb
  by_cases hc : c03 u s
  · have e : ∀ B1 Q1, dueQ u cs s B1 Q1 b2 q2 = some (sgl u s.l (-1) (-1)) := fun B1 Q1 => by unfold dueQ; rw [if_neg (show ¬ c01 cs s from fun h => by have := h.1; omega), if_neg (show ¬ c02 u s from fun h => by have := h.1; omega), if_pos hc]
    rw [e]
    obtain ⟨h1, ⟨hl0, hl1⟩, hrr, hn⟩ := hc
    have w1 := l1In_ok s.l 1 u
    rw [decide_eq_true hl0, decide_eq_true hl1] at w1
    have v1 := l16Single_ok u s.l (-1) (-1) huv ⟨hl0, hl1⟩
    have v2 := l16Same_ok s.q (sgl u s.l (-1) (-1)) (by omega)
    rw [show decide (some (sgl u s.l (-1) (-1)) = some s.q) = decide (s.q = sgl u s.l (-1) (-1)) by simp only [Option.some.injEq, eq_comm]]
    generalize decide (s.q = sgl u s.l (-1) (-1)) = res at *
    generalize sgl u s.l (-1) (-1) = pp at *
    cases w with
    | false =>
      refine Ctr.of (n := 231) (rs := [.tmp 6]) Try.func220 rfl rfl Try.ntmps220 rfl rfl (by kernel_rfl) Try.checked.mixed ?_
      simp (disch := first | omega | decide +kernel) only [hes, D.ints, go_sem, Nat.reduceEqDiff, Nat.reduceLT, Nat.reduceAdd, Nat.reduceMul, Nat.reduceSub, ↓reduceIte, reduceCtorEq, Nat.reduceLeDiff, Nat.reduceSubDiff, Nat.reduceBEq]
      (repeat' (first | (refine gsel_split (fun h => ?_) (fun h => ?_) <;> (have h' := h) <;> (try simp only [decide_eq_true_eq, decide_eq_false_iff_not, Bool.not_eq_true', Bool.not_eq_false', bne_iff_ne, ne_eq, beq_iff_eq, bne_eq_false_iff_eq, beq_eq_false_iff_ne, Int.ofNat_lt, Int.ofNat_le, Int.not_lt, Int.not_le, Decidable.not_not, Bool.and_eq_true, Bool.or_eq_true, Bool.or_eq_false_iff, gt_iff_lt, ge_iff_le] at h') <;> first | (exfalso; omega) | (simp (disch := first | omega | decide +kernel) only [h, D.ints, hes, hr, go_sem, Nat.reduceEqDiff, Nat.reduceLT, Nat.reduceAdd, Nat.reduceMul, Nat.reduceSub, ↓reduceIte, reduceCtorEq, Nat.reduceLeDiff, Nat.reduceSubDiff, Nat.reduceBEq] <;> clear h)) | ((first | refine callX_new (c1) rfl (by decide) ?_ | refine callY_new (c1) rfl ?_ | refine callX_new (a1) rfl (by decide) ?_ | refine callY_new (a1) rfl ?_ | refine callX_new (w1) rfl (by decide) ?_ | refine callY_new (w1) rfl ?_ | refine callX_shared (v1) rfl (by decide) ?_ | refine callY_shared (v1) rfl ?_ | refine callX_new (v2) rfl (by decide) ?_ | refine callY_new (v2) rfl ?_ | refine hE _ _ ret_ne ?_ | refine hE _ _ exit_ne ?_) <;> try simp (disch := first | omega | decide +kernel) only [D.ints, hes, hr, go_sem, Nat.reduceEqDiff, Nat.reduceLT, Nat.reduceAdd, Nat.reduceMul, Nat.reduceSub, ↓reduceIte, reduceCtorEq, Nat.reduceLeDiff, Nat.reduceSubDiff, Nat.reduceBEq]) | (refine hN _ ?_ ?_ Wk.kk) | (with_reducible refine And.intro ?_ ?_) | (with_reducible omega) | (exact ok_ints) | (exact cells_ints) | (exact no_mem) | (with_reducible exact plain_ints) | (refine le_maxLen ?_; omega) | (refine List.forall_mem_cons.2 ⟨?_, ?_⟩) | (simp only [go_sem, Nat.reduceAdd, Nat.reduceLT, List.mem_cons, List.not_mem_nil, forall_eq]; done)))
      all_goals (first | rfl | omega | trace_state)
    | true =>
      have hesA := hesA rfl
      have p1 := p1 rfl
      simp only [Bool.and_eq_true, decide_eq_true_eq] at hw
      refine Ctr.of (n := 231) (rs := [.tmp 6]) Try.func220 rfl rfl Try.ntmps220 rfl rfl (by kernel_rfl) Try.checked.mixed ?_
      simp (disch := first | omega | decide +kernel) only [hes, D.ints, go_sem, Nat.reduceEqDiff, Nat.reduceLT, Nat.reduceAdd, Nat.reduceMul, Nat.reduceSub, ↓reduceIte, reduceCtorEq, Nat.reduceLeDiff, Nat.reduceSubDiff, Nat.reduceBEq]
      (repeat' (first | (refine gsel_split (fun h => ?_) (fun h => ?_) <;> (have h' := h) <;> (try simp only [decide_eq_true_eq, decide_eq_false_iff_not, Bool.not_eq_true', Bool.not_eq_false', bne_iff_ne, ne_eq, beq_iff_eq, bne_eq_false_iff_eq, beq_eq_false_iff_ne, Int.ofNat_lt, Int.ofNat_le, Int.not_lt, Int.not_le, Decidable.not_not, Bool.and_eq_true, Bool.or_eq_true, Bool.or_eq_false_iff, gt_iff_lt, ge_iff_le] at h') <;> first | (exfalso; omega) | (simp (disch := first | omega | decide +kernel) only [h, D.ints, hes, hr, hesA, go_sem, Nat.reduceEqDiff, Nat.reduceLT, Nat.reduceAdd, Nat.reduceMul, Nat.reduceSub, ↓reduceIte, reduceCtorEq, Nat.reduceLeDiff, Nat.reduceSubDiff, Nat.reduceBEq] <;> clear h)) | ((first | refine callX_new (c1) rfl (by decide) ?_ | refine callY_new (c1) rfl ?_ | refine callX_new (a1) rfl (by decide) ?_ | refine callY_new (a1) rfl ?_ | refine callX_new (p1) rfl (by decide) ?_ | refine callY_new (p1) rfl ?_ | refine callX_new (w1) rfl (by decide) ?_ | refine callY_new (w1) rfl ?_ | refine callX_shared (v1) rfl (by decide) ?_ | refine callY_shared (v1) rfl ?_ | refine callX_new (v2) rfl (by decide) ?_ | refine callY_new (v2) rfl ?_ | refine hE _ _ ret_ne ?_ | refine hE _ _ exit_ne ?_) <;> try simp (disch := first | omega | decide +kernel) only [D.ints, hes, hr, hesA, go_sem, Nat.reduceEqDiff, Nat.reduceLT, Nat.reduceAdd, Nat.reduceMul, Nat.reduceSub, ↓reduceIte, reduceCtorEq, Nat.reduceLeDiff, Nat.reduceSubDiff, Nat.reduceBEq]) | (refine hN _ ?_ ?_ Wk.kk) | (with_reducible refine And.intro ?_ ?_) | (with_reducible omega) | (exact ok_ints) | (exact cells_ints) | (exact no_mem) | (with_reducible exact plain_ints) | (refine le_maxLen ?_; omega) | (refine List.forall_mem_cons.2 ⟨?_, ?_⟩) | (simp only [go_sem, Nat.reduceAdd, Nat.reduceLT, List.mem_cons, List.not_mem_nil, forall_eq]; done)))
      all_goals (first | rfl | omega | trace_state)
  · have e : ∀ B1 Q1, dueQ u cs s B1 Q1 b2 q2 = none := fun B1 Q1 => by
      unfold dueQ
      rw [if_neg (show ¬ c01 cs s from fun h => by have := h.1; omega), if_neg (show ¬ c02 u s from fun h => by have := h.1; omega), if_neg (show ¬ c03 u s from hc), if_neg fun h => by have := h.1; omega, if_neg fun h => by have := h.1; omega, if_neg fun h => by have := h.1; omega]
    rw [e, show decide ((none : Option Pl) = some s.q) = false from rfl]
    unfold c03 at hc
    have w1 := l1In_ok s.l 1 u
    cases w with
    | false =>
      refine Ctr.of (n := 231) (rs := [.tmp 6]) Try.func220 rfl rfl Try.ntmps220 rfl rfl (by kernel_rfl) Try.checked.mixed ?_
      simp (disch := first | omega | decide +kernel) only [hes, D.ints, go_sem, Nat.reduceEqDiff, Nat.reduceLT, Nat.reduceAdd, Nat.reduceMul, Nat.reduceSub, ↓reduceIte, reduceCtorEq, Nat.reduceLeDiff, Nat.reduceSubDiff, Nat.reduceBEq]
      (repeat' (first | (refine gsel_split (fun h => ?_) (fun h => ?_) <;> (have h' := h) <;> (try simp only [decide_eq_true_eq, decide_eq_false_iff_not, Bool.not_eq_true', Bool.not_eq_false', bne_iff_ne, ne_eq, beq_iff_eq, bne_eq_false_iff_eq, beq_eq_false_iff_ne, Int.ofNat_lt, Int.ofNat_le, Int.not_lt, Int.not_le, Decidable.not_not, Bool.and_eq_true, Bool.or_eq_true, Bool.or_eq_false_iff, gt_iff_lt, ge_iff_le] at h') <;> first | (exfalso; omega) | (simp (disch := first | omega | decide +kernel) only [h, D.ints, hes, hr, go_sem, Nat.reduceEqDiff, Nat.reduceLT, Nat.reduceAdd, Nat.reduceMul, Nat.reduceSub, ↓reduceIte, reduceCtorEq, Nat.reduceLeDiff, Nat.reduceSubDiff, Nat.reduceBEq] <;> clear h)) | ((first | refine callX_new (c1) rfl (by decide) ?_ | refine callY_new (c1) rfl ?_ | refine callX_new (a1) rfl (by decide) ?_ | refine callY_new (a1) rfl ?_ | refine callX_new (w1) rfl (by decide) ?_ | refine callY_new (w1) rfl ?_ | refine hE _ _ ret_ne ?_ | refine hE _ _ exit_ne ?_) <;> try simp (disch := first | omega | decide +kernel) only [D.ints, hes, hr, go_sem, Nat.reduceEqDiff, Nat.reduceLT, Nat.reduceAdd, Nat.reduceMul, Nat.reduceSub, ↓reduceIte, reduceCtorEq, Nat.reduceLeDiff, Nat.reduceSubDiff, Nat.reduceBEq]) | (refine hN _ ?_ ?_ Wk.kk) | (with_reducible refine And.intro ?_ ?_) | (with_reducible omega) | (exact ok_ints) | (exact cells_ints) | (exact no_mem) | (with_reducible exact plain_ints) | (refine le_maxLen ?_; omega) | (refine List.forall_mem_cons.2 ⟨?_, ?_⟩) | (simp only [go_sem, Nat.reduceAdd, Nat.reduceLT, List.mem_cons, List.not_mem_nil, forall_eq]; done)))
      all_goals (first | rfl | omega | trace_state)
    | true =>
      have hesA := hesA rfl
      have p1 := p1 rfl
      simp only [Bool.and_eq_true, decide_eq_true_eq] at hw
      refine Ctr.of (n := 231) (rs := [.tmp 6]) Try.func220 rfl rfl Try.ntmps220 rfl rfl (by kernel_rfl) Try.checked.mixed ?_
      simp (disch := first | omega | decide +kernel) only [hes, D.ints, go_sem, Nat.reduceEqDiff, Nat.reduceLT, Nat.reduceAdd, Nat.reduceMul, Nat.reduceSub, ↓reduceIte, reduceCtorEq, Nat.reduceLeDiff, Nat.reduceSubDiff, Nat.reduceBEq]
      (repeat' (first | (refine gsel_split (fun h => ?_) (fun h => ?_) <;> (have h' := h) <;> (try simp only [decide_eq_true_eq, decide_eq_false_iff_not, Bool.not_eq_true', Bool.not_eq_false', bne_iff_ne, ne_eq, beq_iff_eq, bne_eq_false_iff_eq, beq_eq_false_iff_ne, Int.ofNat_lt, Int.ofNat_le, Int.not_lt, Int.not_le, Decidable.not_not, Bool.and_eq_true, Bool.or_eq_true, Bool.or_eq_false_iff, gt_iff_lt, ge_iff_le] at h') <;> first | (exfalso; omega) | (simp (disch := first | omega | decide +kernel) only [h, D.ints, hes, hr, hesA, go_sem, Nat.reduceEqDiff, Nat.reduceLT, Nat.reduceAdd, Nat.reduceMul, Nat.reduceSub, ↓reduceIte, reduceCtorEq, Nat.reduceLeDiff, Nat.reduceSubDiff, Nat.reduceBEq] <;> clear h)) | ((first | refine callX_new (c1) rfl (by decide) ?_ | refine callY_new (c1) rfl ?_ | refine callX_new (a1) rfl (by decide) ?_ | refine callY_new (a1) rfl ?_ | refine callX_new (p1) rfl (by decide) ?_ | refine callY_new (p1) rfl ?_ | refine callX_new (w1) rfl (by decide) ?_ | refine callY_new (w1) rfl ?_ | refine hE _ _ ret_ne ?_ | refine hE _ _ exit_ne ?_) <;> try simp (disch := first | omega | decide +kernel) only [D.ints, hes, hr, hesA, go_sem, Nat.reduceEqDiff, Nat.reduceLT, Nat.reduceAdd, Nat.reduceMul, Nat.reduceSub, ↓reduceIte, reduceCtorEq, Nat.reduceLeDiff, Nat.reduceSubDiff, Nat.reduceBEq]) | (refine hN _ ?_ ?_ Wk.kk) | (with_reducible refine And.intro ?_ ?_) | (with_reducible omega) | (exact ok_ints) | (exact cells_ints) | (exact no_mem) | (with_reducible exact plain_ints) | (refine le_maxLen ?_; omega) | (refine List.forall_mem_cons.2 ⟨?_, ?_⟩) | (simp only [go_sem, Nat.reduceAdd, Nat.reduceLT, List.mem_cons, List.not_mem_nil, forall_eq]; done)))
      all_goals (first | rfl | omega | trace_state)

set_option maxHeartbeats 16000000 in
theorem l16Correct_5 (s : PSt) (hs : st.getD k PSt.z = s) (hq : okPl u s.q = true) (qa : PSt) (w b : Bool) (hw : (decide (0 ≤ s.l) && decide (s.l ≤ (k : Int) - 1)) = w) (hqa : w = true → st.getD s.l.toNat PSt.z = qa) (hb : w = true → okPl u qa.q = b) (b2 : Bool) (q2 : Pl) (hr : s.ru = 5) : Ctr Try.prog 220 [.agg [.int .i64 u, .slice (cs.map D.ints)], .slice (st.map D.pst), .int .i64 k] false (.d (.bool (decide (dueQ u cs s (w && b) (if (w && b) = true then qa.q else ⟨[], 0⟩) b2 q2 = some s.q)))) [] := by
  have huv := okVars_iff.1 hu
  have hes : el (st.map D.pst) k = D.pst s := by rw [← hs]; exact el_pst hk
  have hxk := hx k
  rw [hs] at hxk
  have c1 := l16Plane_ok u s.q hu (by omega)
  rw [hq] at c1
  have a1 := l1In_ok s.l 0 ((k : Int) - 1)
  rw [hw] at a1
  have hesA : w = true → el (st.map D.pst) s.l.toNat = D.pst qa := fun h => by
    rw [h] at hw
    simp only [Bool.and_eq_true, decide_eq_true_eq] at hw
    rw [← hqa h]; exact el_pst (by omega)
  have p1 : w = true → Ctr Try.prog 264 [.int .i64 u, D.pl qa.q] false (.d (.bool b)) [] := fun h => by
    have := l16Plane_ok u qa.q hu (by have := hx s.l.toNat; rw [hqa h] at this; omega)
    rw [hb h] at this; exact this
  have w3 := l1In_ok s.n 1 1000
  by_cases hc : (w && b) = true ∧ s.r = 0 ∧ (1 ≤ s.n ∧ s.n ≤ 1000)
  · have e : dueQ u cs s (w && b) (if (w && b) = true then qa.q else ⟨[], 0⟩) b2 q2 = some (zipP (fun a _ => s.n * a) qa.q qa.q) := by
      unfold dueQ
      rw [if_neg (show ¬ c01 cs s from fun h => by have := h.1; omega), if_neg (show ¬ c02 u s from fun h => by have := h.1; omega), if_neg (show ¬ c03 u s from fun h => by have := h.1; omega), if_neg fun h => by have := h.1; omega, if_pos ⟨hr, hc⟩, if_pos hc.1]
    rw [e]
    obtain ⟨hwb, hrr, hn0, hn1⟩ := hc
    rw [Bool.and_eq_true] at hwb
    obtain ⟨rfl, rfl⟩ := hwb
    rw [decide_eq_true hn0, decide_eq_true hn1] at w3
    have hbq := okPl_bd (hb rfl)
    have v1 := l16Scale_ok (k := s.n) ⟨hn0, hn1⟩ (by omega) hbq.1 (by decide) (by decide)
    have v2 := l16Same_ok s.q (zipP (fun a _ => s.n * a) qa.q qa.q) (by omega)
    rw [show decide (some (zipP (fun a _ => s.n * a) qa.q qa.q) = some s.q) = decide (s.q = zipP (fun a _ => s.n * a) qa.q qa.q) by simp only [Option.some.injEq, eq_comm]]
    generalize decide (s.q = zipP (fun a _ => s.n * a) qa.q qa.q) = res at *
    generalize zipP (fun a _ => s.n * a) qa.q qa.q = pp at *
    have hesA := hesA rfl
    have p1 := p1 rfl
    simp only [Bool.and_eq_true, decide_eq_true_eq] at hw
    refine Ctr.of (n := 231) (rs := [.tmp 6]) Try.func220 rfl rfl Try.ntmps220 rfl rfl (by kernel_rfl) Try.checked.mixed ?_
    simp (disch := first | omega | decide +kernel) only [hes, D.ints, go_sem, Nat.reduceEqDiff, Nat.reduceLT, Nat.reduceAdd, Nat.reduceMul, Nat.reduceSub, ↓reduceIte, reduceCtorEq, Nat.reduceLeDiff, Nat.reduceSubDiff, Nat.reduceBEq]
    (repeat' (first | (refine gsel_split (fun h => ?_) (fun h => ?_) <;> (have h' := h) <;> (try simp only [decide_eq_true_eq, decide_eq_false_iff_not, Bool.not_eq_true', Bool.not_eq_false', bne_iff_ne, ne_eq, beq_iff_eq, bne_eq_false_iff_eq, beq_eq_false_iff_ne, Int.ofNat_lt, Int.ofNat_le, Int.not_lt, Int.not_le, Decidable.not_not, Bool.and_eq_true, Bool.or_eq_true, Bool.or_eq_false_iff, gt_iff_lt, ge_iff_le] at h') <;> first | (exfalso; omega) | (simp (disch := first | omega | decide +kernel) only [h, D.ints, hes, hr, hesA, go_sem, Nat.reduceEqDiff, Nat.reduceLT, Nat.reduceAdd, Nat.reduceMul, Nat.reduceSub, ↓reduceIte, reduceCtorEq, Nat.reduceLeDiff, Nat.reduceSubDiff, Nat.reduceBEq] <;> clear h)) | ((first | refine callX_new (c1) rfl (by decide) ?_ | refine callY_new (c1) rfl ?_ | refine callX_new (a1) rfl (by decide) ?_ | refine callY_new (a1) rfl ?_ | refine callX_new (p1) rfl (by decide) ?_ | refine callY_new (p1) rfl ?_ | refine callX_new (w3) rfl (by decide) ?_ | refine callY_new (w3) rfl ?_ | refine callX_shared (v1) rfl (by decide) ?_ | refine callY_shared (v1) rfl ?_ | refine callX_new (v2) rfl (by decide) ?_ | refine callY_new (v2) rfl ?_ | refine hE _ _ ret_ne ?_ | refine hE _ _ exit_ne ?_) <;> try simp (disch := first | omega | decide +kernel) only [D.ints, hes, hr, hesA, go_sem, Nat.reduceEqDiff, Nat.reduceLT, Nat.reduceAdd, Nat.reduceMul, Nat.reduceSub, ↓reduceIte, reduceCtorEq, Nat.reduceLeDiff, Nat.reduceSubDiff, Nat.reduceBEq]) | (refine hN _ ?_ ?_ Wk.kk) | (with_reducible refine And.intro ?_ ?_) | (with_reducible omega) | (exact ok_ints) | (exact cells_ints) | (exact no_mem) | (with_reducible exact plain_ints) | (refine le_maxLen ?_; omega) | (refine List.forall_mem_cons.2 ⟨?_, ?_⟩) | (simp only [go_sem, Nat.reduceAdd, Nat.reduceLT, List.mem_cons, List.not_mem_nil, forall_eq]; done)))
    all_goals (first | rfl | omega | trace_state)
  · have e : dueQ u cs s (w && b) (if (w && b) = true then qa.q else ⟨[], 0⟩) b2 q2 = none := by
      unfold dueQ
      rw [if_neg (show ¬ c01 cs s from fun h => by have := h.1; omega), if_neg (show ¬ c02 u s from fun h => by have := h.1; omega), if_neg (show ¬ c03 u s from fun h => by have := h.1; omega), if_neg fun h => by have := h.1; omega, if_neg (fun h => hc h.2), if_neg fun h => by have := h.1; omega]
    rw [e, show decide ((none : Option Pl) = some s.q) = false from rfl]
    clear hqa hb e
    cases w with
    | false =>
      clear hc
      refine Ctr.of (n := 231) (rs := [.tmp 6]) Try.func220 rfl rfl Try.ntmps220 rfl rfl (by kernel_rfl) Try.checked.mixed ?_
      simp (disch := first | omega | decide +kernel) only [hes, D.ints, go_sem, Nat.reduceEqDiff, Nat.reduceLT, Nat.reduceAdd, Nat.reduceMul, Nat.reduceSub, ↓reduceIte, reduceCtorEq, Nat.reduceLeDiff, Nat.reduceSubDiff, Nat.reduceBEq]
      (repeat' (first | (refine gsel_split (fun h => ?_) (fun h => ?_) <;> (have h' := h) <;> (try simp only [decide_eq_true_eq, decide_eq_false_iff_not, Bool.not_eq_true', Bool.not_eq_false', bne_iff_ne, ne_eq, beq_iff_eq, bne_eq_false_iff_eq, beq_eq_false_iff_ne, Int.ofNat_lt, Int.ofNat_le, Int.not_lt, Int.not_le, Decidable.not_not, Bool.and_eq_true, Bool.or_eq_true, Bool.or_eq_false_iff, gt_iff_lt, ge_iff_le] at h') <;> first | (exfalso; omega) | (simp (disch := first | omega | decide +kernel) only [h, D.ints, hes, hr, go_sem, Nat.reduceEqDiff, Nat.reduceLT, Nat.reduceAdd, Nat.reduceMul, Nat.reduceSub, ↓reduceIte, reduceCtorEq, Nat.reduceLeDiff, Nat.reduceSubDiff, Nat.reduceBEq] <;> clear h)) | ((first | refine callX_new (c1) rfl (by decide) ?_ | refine callY_new (c1) rfl ?_ | refine callX_new (a1) rfl (by decide) ?_ | refine callY_new (a1) rfl ?_ | refine callX_new (w3) rfl (by decide) ?_ | refine callY_new (w3) rfl ?_ | refine hE _ _ ret_ne ?_ | refine hE _ _ exit_ne ?_) <;> try simp (disch := first | omega | decide +kernel) only [D.ints, hes, hr, go_sem, Nat.reduceEqDiff, Nat.reduceLT, Nat.reduceAdd, Nat.reduceMul, Nat.reduceSub, ↓reduceIte, reduceCtorEq, Nat.reduceLeDiff, Nat.reduceSubDiff, Nat.reduceBEq]) | (refine hN _ ?_ ?_ Wk.kk) | (with_reducible refine And.intro ?_ ?_) | (with_reducible omega) | (exact ok_ints) | (exact cells_ints) | (exact no_mem) | (with_reducible exact plain_ints) | (refine le_maxLen ?_; omega) | (refine List.forall_mem_cons.2 ⟨?_, ?_⟩) | (simp only [go_sem, Nat.reduceAdd, Nat.reduceLT, List.mem_cons, List.not_mem_nil, forall_eq]; done)))
      all_goals (first | rfl | omega | trace_state)
    | true =>
      have hesA := hesA rfl
      have p1 := p1 rfl
      simp only [Bool.and_eq_true, decide_eq_true_eq] at hw
      cases b with
      | false =>
        clear hc
        refine Ctr.of (n := 231) (rs := [.tmp 6]) Try.func220 rfl rfl Try.ntmps220 rfl rfl (by kernel_rfl) Try.checked.mixed ?_
        simp (disch := first | omega | decide +kernel) only [hes, D.ints, go_sem, Nat.reduceEqDiff, Nat.reduceLT, Nat.reduceAdd, Nat.reduceMul, Nat.reduceSub, ↓reduceIte, reduceCtorEq, Nat.reduceLeDiff, Nat.reduceSubDiff, Nat.reduceBEq]
        (repeat' (first | (refine gsel_split (fun h => ?_) (fun h => ?_) <;> (have h' := h) <;> (try simp only [decide_eq_true_eq, decide_eq_false_iff_not, Bool.not_eq_true', Bool.not_eq_false', bne_iff_ne, ne_eq, beq_iff_eq, bne_eq_false_iff_eq, beq_eq_false_iff_ne, Int.ofNat_lt, Int.ofNat_le, Int.not_lt, Int.not_le, Decidable.not_not, Bool.and_eq_true, Bool.or_eq_true, Bool.or_eq_false_iff, gt_iff_lt, ge_iff_le] at h') <;> first | (exfalso; omega) | (simp (disch := first | omega | decide +kernel) only [h, D.ints, hes, hr, hesA, go_sem, Nat.reduceEqDiff, Nat.reduceLT, Nat.reduceAdd, Nat.reduceMul, Nat.reduceSub, ↓reduceIte, reduceCtorEq, Nat.reduceLeDiff, Nat.reduceSubDiff, Nat.reduceBEq] <;> clear h)) | ((first | refine callX_new (c1) rfl (by decide) ?_ | refine callY_new (c1) rfl ?_ | refine callX_new (a1) rfl (by decide) ?_ | refine callY_new (a1) rfl ?_ | refine callX_new (p1) rfl (by decide) ?_ | refine callY_new (p1) rfl ?_ | refine callX_new (w3) rfl (by decide) ?_ | refine callY_new (w3) rfl ?_ | refine hE _ _ ret_ne ?_ | refine hE _ _ exit_ne ?_) <;> try simp (disch := first | omega | decide +kernel) only [D.ints, hes, hr, hesA, go_sem, Nat.reduceEqDiff, Nat.reduceLT, Nat.reduceAdd, Nat.reduceMul, Nat.reduceSub, ↓reduceIte, reduceCtorEq, Nat.reduceLeDiff, Nat.reduceSubDiff, Nat.reduceBEq]) | (refine hN _ ?_ ?_ Wk.kk) | (with_reducible refine And.intro ?_ ?_) | (with_reducible omega) | (exact ok_ints) | (exact cells_ints) | (exact no_mem) | (with_reducible exact plain_ints) | (refine le_maxLen ?_; omega) | (refine List.forall_mem_cons.2 ⟨?_, ?_⟩) | (simp only [go_sem, Nat.reduceAdd, Nat.reduceLT, List.mem_cons, List.not_mem_nil, forall_eq]; done)))
        all_goals (first | rfl | omega | trace_state)
      | true =>
        simp only [Bool.and_self, true_and] at hc
        refine Ctr.of (n := 231) (rs := [.tmp 6]) Try.func220 rfl rfl Try.ntmps220 rfl rfl (by kernel_rfl) Try.checked.mixed ?_
        simp (disch := first | omega | decide +kernel) only [hes, D.ints, go_sem, Nat.reduceEqDiff, Nat.reduceLT, Nat.reduceAdd, Nat.reduceMul, Nat.reduceSub, ↓reduceIte, reduceCtorEq, Nat.reduceLeDiff, Nat.reduceSubDiff, Nat.reduceBEq]
        (repeat' (first | (refine gsel_split (fun h => ?_) (fun h => ?_) <;> (have h' := h) <;> (try simp only [decide_eq_true_eq, decide_eq_false_iff_not, Bool.not_eq_true', Bool.not_eq_false', bne_iff_ne, ne_eq, beq_iff_eq, bne_eq_false_iff_eq, beq_eq_false_iff_ne, Int.ofNat_lt, Int.ofNat_le, Int.not_lt, Int.not_le, Decidable.not_not, Bool.and_eq_true, Bool.or_eq_true, Bool.or_eq_false_iff, gt_iff_lt, ge_iff_le] at h') <;> first | (exfalso; omega) | (simp (disch := first | omega | decide +kernel) only [h, D.ints, hes, hr, hesA, go_sem, Nat.reduceEqDiff, Nat.reduceLT, Nat.reduceAdd, Nat.reduceMul, Nat.reduceSub, ↓reduceIte, reduceCtorEq, Nat.reduceLeDiff, Nat.reduceSubDiff, Nat.reduceBEq] <;> clear h)) | ((first | refine callX_new (c1) rfl (by decide) ?_ | refine callY_new (c1) rfl ?_ | refine callX_new (a1) rfl (by decide) ?_ | refine callY_new (a1) rfl ?_ | refine callX_new (p1) rfl (by decide) ?_ | refine callY_new (p1) rfl ?_ | refine callX_new (w3) rfl (by decide) ?_ | refine callY_new (w3) rfl ?_ | refine hE _ _ ret_ne ?_ | refine hE _ _ exit_ne ?_) <;> try simp (disch := first | omega | decide +kernel) only [D.ints, hes, hr, hesA, go_sem, Nat.reduceEqDiff, Nat.reduceLT, Nat.reduceAdd, Nat.reduceMul, Nat.reduceSub, ↓reduceIte, reduceCtorEq, Nat.reduceLeDiff, Nat.reduceSubDiff, Nat.reduceBEq]) | (refine hN _ ?_ ?_ Wk.kk) | (with_reducible refine And.intro ?_ ?_) | (with_reducible omega) | (exact ok_ints) | (exact cells_ints) | (exact no_mem) | (with_reducible exact plain_ints) | (refine le_maxLen ?_; omega) | (refine List.forall_mem_cons.2 ⟨?_, ?_⟩) | (simp only [go_sem, Nat.reduceAdd, Nat.reduceLT, List.mem_cons, List.not_mem_nil, forall_eq]; done)))
        all_goals (first | rfl | omega | trace_state)

set_option maxHeartbeats 16000000 in
theorem l16Correct_6 (s : PSt) (hs : st.getD k PSt.z = s) (hq : okPl u s.q = true) (qa : PSt) (w b : Bool) (hw : (decide (0 ≤ s.l) && decide (s.l ≤ (k : Int) - 1)) = w) (hqa : w = true → st.getD s.l.toNat PSt.z = qa) (hb : w = true → okPl u qa.q = b) (b2 : Bool) (q2 : Pl) (hr : s.ru = 6) : Ctr Try.prog 220 [.agg [.int .i64 u, .slice (cs.map D.ints)], .slice (st.map D.pst), .int .i64 k] false (.d (.bool (decide (dueQ u cs s (w && b) (if (w && b) = true then qa.q else ⟨[], 0⟩) b2 q2 = some s.q)))) [] := by
  have huv := okVars_iff.1 hu
  have hes : el (st.map D.pst) k = D.pst s := by rw [← hs]; exact el_pst hk
  have hxk := hx k
  rw [hs] at hxk
  have c1 := l16Plane_ok u s.q hu (by omega)
  rw [hq] at c1
  have a1 := l1In_ok s.l 0 ((k : Int) - 1)
  rw [hw] at a1
  have hesA : w = true → el (st.map D.pst) s.l.toNat = D.pst qa := fun h => by
    rw [h] at hw
    simp only [Bool.and_eq_true, decide_eq_true_eq] at hw
    rw [← hqa h]; exact el_pst (by omega)
  have p1 : w = true → Ctr Try.prog 264 [.int .i64 u, D.pl qa.q] false (.d (.bool b)) [] := fun h => by
    have := l16Plane_ok u qa.q hu (by have := hx s.l.toNat; rw [hqa h] at this; omega)
    rw [hb h] at this; exact this
  have w3 := l1In_ok s.n 2 1000
  by_cases hc : (w && b) = true ∧ s.r = 0 ∧ (2 ≤ s.n ∧ s.n ≤ 1000)
  · have e : dueQ u cs s (w && b) (if (w && b) = true then qa.q else ⟨[], 0⟩) b2 q2 = if oddK s.n qa.q = false then some (halfK s.n qa.q) else none := by
      unfold dueQ
      rw [if_neg (show ¬ c01 cs s from fun h => by have := h.1; omega), if_neg (show ¬ c02 u s from fun h => by have := h.1; omega), if_neg (show ¬ c03 u s from fun h => by have := h.1; omega), if_neg fun h => by have := h.1; omega, if_neg fun h => by have := h.1; omega, if_pos hc.1]
      by_cases ho : oddK s.n qa.q = false
      · rw [if_pos ⟨hr, hc.1, hc.2.1, hc.2.2, ho⟩, if_pos ho]
      · rw [if_neg (fun h => ho h.2.2.2.2), if_neg ho]
    rw [e]
    obtain ⟨hwb, hrr, hn0, hn1⟩ := hc
    rw [Bool.and_eq_true] at hwb
    obtain ⟨rfl, rfl⟩ := hwb
    rw [decide_eq_true hn0, decide_eq_true hn1] at w3
    have hbq := okPl_bd (hb rfl)
    have v1 := l16DivideK_ok (k := s.n) ⟨by omega, hn1⟩ (by omega) hbq.1 (by decide)
    have hesA := hesA rfl
    have p1 := p1 rfl
    simp only [Bool.and_eq_true, decide_eq_true_eq] at hw
    have v2 := l16Same_ok s.q (divKP s.n qa.q) (by omega)
    cases ho : oddK s.n qa.q with
    | true =>
      rw [ho] at v1
      rw [if_neg (by decide), show decide ((none : Option Pl) = some s.q) = false from rfl]
      generalize divKP s.n qa.q = pp at *
      have v1 := Ctr.tupN (ys := [D.pl pp, .bool (!true)]) v1
      refine Ctr.of (n := 231) (rs := [.tmp 6]) Try.func220 rfl rfl Try.ntmps220 rfl rfl (by kernel_rfl) Try.checked.mixed ?_
      simp (disch := first | omega | decide +kernel) only [hes, D.ints, go_sem, Nat.reduceEqDiff, Nat.reduceLT, Nat.reduceAdd, Nat.reduceMul, Nat.reduceSub, ↓reduceIte, reduceCtorEq, Nat.reduceLeDiff, Nat.reduceSubDiff, Nat.reduceBEq]
      (repeat' (first | (refine gsel_split (fun h => ?_) (fun h => ?_) <;> (have h' := h) <;> (try simp only [decide_eq_true_eq, decide_eq_false_iff_not, Bool.not_eq_true', Bool.not_eq_false', bne_iff_ne, ne_eq, beq_iff_eq, bne_eq_false_iff_eq, beq_eq_false_iff_ne, Int.ofNat_lt, Int.ofNat_le, Int.not_lt, Int.not_le, Decidable.not_not, Bool.and_eq_true, Bool.or_eq_true, Bool.or_eq_false_iff, gt_iff_lt, ge_iff_le] at h') <;> first | (exfalso; omega) | (simp (disch := first | omega | decide +kernel) only [h, D.ints, hes, hr, hesA, go_sem, Nat.reduceEqDiff, Nat.reduceLT, Nat.reduceAdd, Nat.reduceMul, Nat.reduceSub, ↓reduceIte, reduceCtorEq, Nat.reduceLeDiff, Nat.reduceSubDiff, Nat.reduceBEq] <;> clear h)) | ((first | refine callX_new (c1) rfl (by decide) ?_ | refine callY_new (c1) rfl ?_ | refine callX_new (a1) rfl (by decide) ?_ | refine callY_new (a1) rfl ?_ | refine callX_new (p1) rfl (by decide) ?_ | refine callY_new (p1) rfl ?_ | refine callX_new (w3) rfl (by decide) ?_ | refine callY_new (w3) rfl ?_ | refine callX_shared (v1) rfl (by decide) ?_ | refine callY_shared (v1) rfl ?_ | refine callX_new (v2) rfl (by decide) ?_ | refine callY_new (v2) rfl ?_ | refine hE _ _ ret_ne ?_ | refine hE _ _ exit_ne ?_) <;> try simp (disch := first | omega | decide +kernel) only [D.ints, hes, hr, hesA, go_sem, Nat.reduceEqDiff, Nat.reduceLT, Nat.reduceAdd, Nat.reduceMul, Nat.reduceSub, ↓reduceIte, reduceCtorEq, Nat.reduceLeDiff, Nat.reduceSubDiff, Nat.reduceBEq]) | (refine hN _ ?_ ?_ Wk.kk) | (with_reducible refine And.intro ?_ ?_) | (with_reducible omega) | (exact ok_ints) | (exact cells_ints) | (exact no_mem) | (with_reducible exact plain_ints) | (refine le_maxLen ?_; omega) | (refine List.forall_mem_cons.2 ⟨?_, ?_⟩) | (simp only [go_sem, Nat.reduceAdd, Nat.reduceLT, List.mem_cons, List.not_mem_nil, forall_eq]; done)))
      all_goals (first | rfl | omega | trace_state)
    | false =>
      rw [ho] at v1
      rw [if_pos rfl]
      rw [divKP, ho, if_neg (by decide)] at v1 v2
      rw [show decide (some (halfK s.n qa.q) = some s.q) = decide (s.q = halfK s.n qa.q) by simp only [Option.some.injEq, eq_comm]]
      generalize decide (s.q = halfK s.n qa.q) = res at *
      generalize halfK s.n qa.q = pp at *
      have v1 := Ctr.tupN (ys := [D.pl pp, .bool (!false)]) v1
      refine Ctr.of (n := 231) (rs := [.tmp 6]) Try.func220 rfl rfl Try.ntmps220 rfl rfl (by kernel_rfl) Try.checked.mixed ?_
      simp (disch := first | omega | decide +kernel) only [hes, D.ints, go_sem, Nat.reduceEqDiff, Nat.reduceLT, Nat.reduceAdd, Nat.reduceMul, Nat.reduceSub, ↓reduceIte, reduceCtorEq, Nat.reduceLeDiff, Nat.reduceSubDiff, Nat.reduceBEq]
      (repeat' (first | (refine gsel_split (fun h => ?_) (fun h => ?_) <;> (have h' := h) <;> (try simp only [decide_eq_true_eq, decide_eq_false_iff_not, Bool.not_eq_true', Bool.not_eq_false', bne_iff_ne, ne_eq, beq_iff_eq, bne_eq_false_iff_eq, beq_eq_false_iff_ne, Int.ofNat_lt, Int.ofNat_le, Int.not_lt, Int.not_le, Decidable.not_not, Bool.and_eq_true, Bool.or_eq_true, Bool.or_eq_false_iff, gt_iff_lt, ge_iff_le] at h') <;> first | (exfalso; omega) | (simp (disch := first | omega | decide +kernel) only [h, D.ints, hes, hr, hesA, go_sem, Nat.reduceEqDiff, Nat.reduceLT, Nat.reduceAdd, Nat.reduceMul, Nat.reduceSub, ↓reduceIte, reduceCtorEq, Nat.reduceLeDiff, Nat.reduceSubDiff, Nat.reduceBEq] <;> clear h)) | ((first | refine callX_new (c1) rfl (by decide) ?_ | refine callY_new (c1) rfl ?_ | refine callX_new (a1) rfl (by decide) ?_ | refine callY_new (a1) rfl ?_ | refine callX_new (p1) rfl (by decide) ?_ | refine callY_new (p1) rfl ?_ | refine callX_new (w3) rfl (by decide) ?_ | refine callY_new (w3) rfl ?_ | refine callX_shared (v1) rfl (by decide) ?_ | refine callY_shared (v1) rfl ?_ | refine callX_new (v2) rfl (by decide) ?_ | refine callY_new (v2) rfl ?_ | refine hE _ _ ret_ne ?_ | refine hE _ _ exit_ne ?_) <;> try simp (disch := first | omega | decide +kernel) only [D.ints, hes, hr, hesA, go_sem, Nat.reduceEqDiff, Nat.reduceLT, Nat.reduceAdd, Nat.reduceMul, Nat.reduceSub, ↓reduceIte, reduceCtorEq, Nat.reduceLeDiff, Nat.reduceSubDiff, Nat.reduceBEq]) | (refine hN _ ?_ ?_ Wk.kk) | (with_reducible refine And.intro ?_ ?_) | (with_reducible omega) | (exact ok_ints) | (exact cells_ints) | (exact no_mem) | (with_reducible exact plain_ints) | (refine le_maxLen ?_; omega) | (refine List.forall_mem_cons.2 ⟨?_, ?_⟩) | (simp only [go_sem, Nat.reduceAdd, Nat.reduceLT, List.mem_cons, List.not_mem_nil, forall_eq]; done)))
      all_goals (first | rfl | omega | trace_state)
  · have e : dueQ u cs s (w && b) (if (w && b) = true then qa.q else ⟨[], 0⟩) b2 q2 = none := by
      unfold dueQ
      rw [if_neg (show ¬ c01 cs s from fun h => by have := h.1; omega), if_neg (show ¬ c02 u s from fun h => by have := h.1; omega), if_neg (show ¬ c03 u s from fun h => by have := h.1; omega), if_neg fun h => by have := h.1; omega, if_neg fun h => by have := h.1; omega, if_neg (fun h => hc ⟨h.2.1, h.2.2.1, h.2.2.2.1⟩)]
    rw [e, show decide ((none : Option Pl) = some s.q) = false from rfl]
    clear hqa hb e
    cases w with
    | false =>
      clear hc
      refine Ctr.of (n := 231) (rs := [.tmp 6]) Try.func220 rfl rfl Try.ntmps220 rfl rfl (by kernel_rfl) Try.checked.mixed ?_
      simp (disch := first | omega | decide +kernel) only [hes, D.ints, go_sem, Nat.reduceEqDiff, Nat.reduceLT, Nat.reduceAdd, Nat.reduceMul, Nat.reduceSub, ↓reduceIte, reduceCtorEq, Nat.reduceLeDiff, Nat.reduceSubDiff, Nat.reduceBEq]
      (repeat' (first | (refine gsel_split (fun h => ?_) (fun h => ?_) <;> (have h' := h) <;> (try simp only [decide_eq_true_eq, decide_eq_false_iff_not, Bool.not_eq_true', Bool.not_eq_false', bne_iff_ne, ne_eq, beq_iff_eq, bne_eq_false_iff_eq, beq_eq_false_iff_ne, Int.ofNat_lt, Int.ofNat_le, Int.not_lt, Int.not_le, Decidable.not_not, Bool.and_eq_true, Bool.or_eq_true, Bool.or_eq_false_iff, gt_iff_lt, ge_iff_le] at h') <;> first | (exfalso; omega) | (simp (disch := first | omega | decide +kernel) only [h, D.ints, hes, hr, go_sem, Nat.reduceEqDiff, Nat.reduceLT, Nat.reduceAdd, Nat.reduceMul, Nat.reduceSub, ↓reduceIte, reduceCtorEq, Nat.reduceLeDiff, Nat.reduceSubDiff, Nat.reduceBEq] <;> clear h)) | ((first | refine callX_new (c1) rfl (by decide) ?_ | refine callY_new (c1) rfl ?_ | refine callX_new (a1) rfl (by decide) ?_ | refine callY_new (a1) rfl ?_ | refine callX_new (w3) rfl (by decide) ?_ | refine callY_new (w3) rfl ?_ | refine hE _ _ ret_ne ?_ | refine hE _ _ exit_ne ?_) <;> try simp (disch := first | omega | decide +kernel) only [D.ints, hes, hr, go_sem, Nat.reduceEqDiff, Nat.reduceLT, Nat.reduceAdd, Nat.reduceMul, Nat.reduceSub, ↓reduceIte, reduceCtorEq, Nat.reduceLeDiff, Nat.reduceSubDiff, Nat.reduceBEq]) | (refine hN _ ?_ ?_ Wk.kk) | (with_reducible refine And.intro ?_ ?_) | (with_reducible omega) | (exact ok_ints) | (exact cells_ints) | (exact no_mem) | (with_reducible exact plain_ints) | (refine le_maxLen ?_; omega) | (refine List.forall_mem_cons.2 ⟨?_, ?_⟩) | (simp only [go_sem, Nat.reduceAdd, Nat.reduceLT, List.mem_cons, List.not_mem_nil, forall_eq]; done)))
      all_goals (first | rfl | omega | trace_state)
    | true =>
      have hesA := hesA rfl
      have p1 := p1 rfl
      simp only [Bool.and_eq_true, decide_eq_true_eq] at hw
      cases b with
      | false =>
        clear hc
        refine Ctr.of (n := 231) (rs := [.tmp 6]) Try.func220 rfl rfl Try.ntmps220 rfl rfl (by kernel_rfl) Try.checked.mixed ?_
        simp (disch := first | omega | decide +kernel) only [hes, D.ints, go_sem, Nat.reduceEqDiff, Nat.reduceLT, Nat.reduceAdd, Nat.reduceMul, Nat.reduceSub, ↓reduceIte, reduceCtorEq, Nat.reduceLeDiff, Nat.reduceSubDiff, Nat.reduceBEq]
        (repeat' (first | (refine gsel_split (fun h => ?_) (fun h => ?_) <;> (have h' := h) <;> (try simp only [decide_eq_true_eq, decide_eq_false_iff_not, Bool.not_eq_true', Bool.not_eq_false', bne_iff_ne, ne_eq, beq_iff_eq, bne_eq_false_iff_eq, beq_eq_false_iff_ne, Int.ofNat_lt, Int.ofNat_le, Int.not_lt, Int.not_le, Decidable.not_not, Bool.and_eq_true, Bool.or_eq_true, Bool.or_eq_false_iff, gt_iff_lt, ge_iff_le] at h') <;> first | (exfalso; omega) | (simp (disch := first | omega | decide +kernel) only [h, D.ints, hes, hr, hesA, go_sem, Nat.reduceEqDiff, Nat.reduceLT, Nat.reduceAdd, Nat.reduceMul, Nat.reduceSub, ↓reduceIte, reduceCtorEq, Nat.reduceLeDiff, Nat.reduceSubDiff, Nat.reduceBEq] <;> clear h)) | ((first | refine callX_new (c1) rfl (by decide) ?_ | refine callY_new (c1) rfl ?_ | refine callX_new (a1) rfl (by decide) ?_ | refine callY_new (a1) rfl ?_ | refine callX_new (p1) rfl (by decide) ?_ | refine callY_new (p1) rfl ?_ | refine callX_new (w3) rfl (by decide) ?_ | refine callY_new (w3) rfl ?_ | refine hE _ _ ret_ne ?_ | refine hE _ _ exit_ne ?_) <;> try simp (disch := first | omega | decide +kernel) only [D.ints, hes, hr, hesA, go_sem, Nat.reduceEqDiff, Nat.reduceLT, Nat.reduceAdd, Nat.reduceMul, Nat.reduceSub, ↓reduceIte, reduceCtorEq, Nat.reduceLeDiff, Nat.reduceSubDiff, Nat.reduceBEq]) | (refine hN _ ?_ ?_ Wk.kk) | (with_reducible refine And.intro ?_ ?_) | (with_reducible omega) | (exact ok_ints) | (exact cells_ints) | (exact no_mem) | (with_reducible exact plain_ints) | (refine le_maxLen ?_; omega) | (refine List.forall_mem_cons.2 ⟨?_, ?_⟩) | (simp only [go_sem, Nat.reduceAdd, Nat.reduceLT, List.mem_cons, List.not_mem_nil, forall_eq]; done)))
        all_goals (first | rfl | omega | trace_state)
      | true =>
        simp only [Bool.and_self, true_and] at hc
        refine Ctr.of (n := 231) (rs := [.tmp 6]) Try.func220 rfl rfl Try.ntmps220 rfl rfl (by kernel_rfl) Try.checked.mixed ?_
        simp (disch := first | omega | decide +kernel) only [hes, D.ints, go_sem, Nat.reduceEqDiff, Nat.reduceLT, Nat.reduceAdd, Nat.reduceMul, Nat.reduceSub, ↓reduceIte, reduceCtorEq, Nat.reduceLeDiff, Nat.reduceSubDiff, Nat.reduceBEq]
        (repeat' (first | (refine gsel_split (fun h => ?_) (fun h => ?_) <;> (have h' := h) <;> (try simp only [decide_eq_true_eq, decide_eq_false_iff_not, Bool.not_eq_true', Bool.not_eq_false', bne_iff_ne, ne_eq, beq_iff_eq, bne_eq_false_iff_eq, beq_eq_false_iff_ne, Int.ofNat_lt, Int.ofNat_le, Int.not_lt, Int.not_le, Decidable.not_not, Bool.and_eq_true, Bool.or_eq_true, Bool.or_eq_false_iff, gt_iff_lt, ge_iff_le] at h') <;> first | (exfalso; omega) | (simp (disch := first | omega | decide +kernel) only [h, D.ints, hes, hr, hesA, go_sem, Nat.reduceEqDiff, Nat.reduceLT, Nat.reduceAdd, Nat.reduceMul, Nat.reduceSub, ↓reduceIte, reduceCtorEq, Nat.reduceLeDiff, Nat.reduceSubDiff, Nat.reduceBEq] <;> clear h)) | ((first | refine callX_new (c1) rfl (by decide) ?_ | refine callY_new (c1) rfl ?_ | refine callX_new (a1) rfl (by decide) ?_ | refine callY_new (a1) rfl ?_ | refine callX_new (p1) rfl (by decide) ?_ | refine callY_new (p1) rfl ?_ | refine callX_new (w3) rfl (by decide) ?_ | refine callY_new (w3) rfl ?_ | refine hE _ _ ret_ne ?_ | refine hE _ _ exit_ne ?_) <;> try simp (disch := first | omega | decide +kernel) only [D.ints, hes, hr, hesA, go_sem, Nat.reduceEqDiff, Nat.reduceLT, Nat.reduceAdd, Nat.reduceMul, Nat.reduceSub, ↓reduceIte, reduceCtorEq, Nat.reduceLeDiff, Nat.reduceSubDiff, Nat.reduceBEq]) | (refine hN _ ?_ ?_ Wk.kk) | (with_reducible refine And.intro ?_ ?_) | (with_reducible omega) | (exact ok_ints) | (exact cells_ints) | (exact no_mem) | (with_reducible exact plain_ints) | (refine le_maxLen ?_; omega) | (refine List.forall_mem_cons.2 ⟨?_, ?_⟩) | (simp only [go_sem, Nat.reduceAdd, Nat.reduceLT, List.mem_cons, List.not_mem_nil, forall_eq]; done)))
        all_goals (first | rfl | omega | trace_state)

set_option maxHeartbeats 16000000 in
theorem l16Correct_4 (s : PSt) (hs : st.getD k PSt.z = s) (hq : okPl u s.q = true) (qa : PSt) (w b : Bool) (hw : (decide (0 ≤ s.l) && decide (s.l ≤ (k : Int) - 1)) = w) (hqa : w = true → st.getD s.l.toNat PSt.z = qa) (hb : w = true → okPl u qa.q = b) (qb : PSt) (w2 b2 : Bool) (hw2 : (decide (0 ≤ s.r) && decide (s.r ≤ (k : Int) - 1)) = w2) (hqb : w2 = true → st.getD s.r.toNat PSt.z = qb) (hb2 : w2 = true → okPl u qb.q = b2) (hr : s.ru = 4) : Ctr Try.prog 220 [.agg [.int .i64 u, .slice (cs.map D.ints)], .slice (st.map D.pst), .int .i64 k] false (.d (.bool (decide (dueQ u cs s (w && b) (if (w && b) = true then qa.q else ⟨[], 0⟩) (w2 && b2) (if (w2 && b2) = true then qb.q else ⟨[], 0⟩) = some s.q)))) [] := by
  have huv := okVars_iff.1 hu
  have hes : el (st.map D.pst) k = D.pst s := by rw [← hs]; exact el_pst hk
  have hxk := hx k
  rw [hs] at hxk
  have c1 := l16Plane_ok u s.q hu (by omega)
  rw [hq] at c1
  have a1 := l1In_ok s.l 0 ((k : Int) - 1)
  rw [hw] at a1
  have hesA : w = true → el (st.map D.pst) s.l.toNat = D.pst qa := fun h => by
    rw [h] at hw
    simp only [Bool.and_eq_true, decide_eq_true_eq] at hw
    rw [← hqa h]; exact el_pst (by omega)
  have p1 : w = true → Ctr Try.prog 264 [.int .i64 u, D.pl qa.q] false (.d (.bool b)) [] := fun h => by
    have := l16Plane_ok u qa.q hu (by have := hx s.l.toNat; rw [hqa h] at this; omega)
    rw [hb h] at this; exact this
  have a2 := l1In_ok s.r 0 ((k : Int) - 1)
  rw [hw2] at a2
  have hesB : w2 = true → el (st.map D.pst) s.r.toNat = D.pst qb := fun h => by
    rw [h] at hw2
    simp only [Bool.and_eq_true, decide_eq_true_eq] at hw2
    rw [← hqb h]; exact el_pst (by omega)
  have p2 : w2 = true → Ctr Try.prog 264 [.int .i64 u, D.pl qb.q] false (.d (.bool b2)) [] := fun h => by
    have := l16Plane_ok u qb.q hu (by have := hx s.r.toNat; rw [hqb h] at this; omega)
    rw [hb2 h] at this; exact this
  by_cases hc : (w && b) = true ∧ (w2 && b2) = true ∧ s.n = 0
  · have e : dueQ u cs s (w && b) (if (w && b) = true then qa.q else ⟨[], 0⟩) (w2 && b2) (if (w2 && b2) = true then qb.q else ⟨[], 0⟩) = some (addP qa.q qb.q) := by
      unfold dueQ
      rw [if_neg (show ¬ c01 cs s from fun h => by have := h.1; omega), if_neg (show ¬ c02 u s from fun h => by have := h.1; omega), if_neg (show ¬ c03 u s from fun h => by have := h.1; omega), if_pos ⟨hr, hc⟩, if_pos hc.1, if_pos hc.2.1]
    rw [e]
    obtain ⟨hwb, hwb2, hn⟩ := hc
    rw [Bool.and_eq_true] at hwb hwb2
    obtain ⟨rfl, rfl⟩ := hwb
    obtain ⟨rfl, rfl⟩ := hwb2
    have hbq := okPl_bd (hb rfl)
    have hbq2 := okPl_bd (hb2 rfl)
    have v1 := l16Add_ok (q := qa.q) (r := qb.q) (by omega) (by omega) hbq.1 hbq2.1 (by decide) (by decide)
    have v2 := l16Same_ok s.q (addP qa.q qb.q) (by omega)
    rw [show decide (some (addP qa.q qb.q) = some s.q) = decide (s.q = addP qa.q qb.q) by simp only [Option.some.injEq, eq_comm]]
    generalize decide (s.q = addP qa.q qb.q) = res at *
    generalize addP qa.q qb.q = pp at *
    have hesA := hesA rfl
    have p1 := p1 rfl
    have hesB := hesB rfl
    have p2 := p2 rfl
    simp only [Bool.and_eq_true, decide_eq_true_eq] at hw hw2
    refine Ctr.of (n := 231) (rs := [.tmp 6]) Try.func220 rfl rfl Try.ntmps220 rfl rfl (by kernel_rfl) Try.checked.mixed ?_
    simp (disch := first | omega | decide +kernel) only [hes, D.ints, go_sem, Nat.reduceEqDiff, Nat.reduceLT, Nat.reduceAdd, Nat.reduceMul, Nat.reduceSub, ↓reduceIte, reduceCtorEq, Nat.reduceLeDiff, Nat.reduceSubDiff, Nat.reduceBEq]
    (repeat' (first | (refine gsel_split (fun h => ?_) (fun h => ?_) <;> (have h' := h) <;> (try simp only [decide_eq_true_eq, decide_eq_false_iff_not, Bool.not_eq_true', Bool.not_eq_false', bne_iff_ne, ne_eq, beq_iff_eq, bne_eq_false_iff_eq, beq_eq_false_iff_ne, Int.ofNat_lt, Int.ofNat_le, Int.not_lt, Int.not_le, Decidable.not_not, Bool.and_eq_true, Bool.or_eq_true, Bool.or_eq_false_iff, gt_iff_lt, ge_iff_le] at h') <;> first | (exfalso; omega) | (simp (disch := first | omega | decide +kernel) only [h, D.ints, hes, hr, hesA, hesB, go_sem, Nat.reduceEqDiff, Nat.reduceLT, Nat.reduceAdd, Nat.reduceMul, Nat.reduceSub, ↓reduceIte, reduceCtorEq, Nat.reduceLeDiff, Nat.reduceSubDiff, Nat.reduceBEq] <;> clear h)) | ((first | refine callX_new (c1) rfl (by decide) ?_ | refine callY_new (c1) rfl ?_ | refine callX_new (a1) rfl (by decide) ?_ | refine callY_new (a1) rfl ?_ | refine callX_new (a2) rfl (by decide) ?_ | refine callY_new (a2) rfl ?_ | refine callX_new (p1) rfl (by decide) ?_ | refine callY_new (p1) rfl ?_ | refine callX_new (p2) rfl (by decide) ?_ | refine callY_new (p2) rfl ?_ | refine callX_shared (v1) rfl (by decide) ?_ | refine callY_shared (v1) rfl ?_ | refine callX_new (v2) rfl (by decide) ?_ | refine callY_new (v2) rfl ?_ | refine hE _ _ ret_ne ?_ | refine hE _ _ exit_ne ?_) <;> try simp (disch := first | omega | decide +kernel) only [D.ints, hes, hr, hesA, hesB, go_sem, Nat.reduceEqDiff, Nat.reduceLT, Nat.reduceAdd, Nat.reduceMul, Nat.reduceSub, ↓reduceIte, reduceCtorEq, Nat.reduceLeDiff, Nat.reduceSubDiff, Nat.reduceBEq]) | (refine hN _ ?_ ?_ Wk.kk) | (with_reducible refine And.intro ?_ ?_) | (with_reducible omega) | (exact ok_ints) | (exact cells_ints) | (exact no_mem) | (with_reducible exact plain_ints) | (refine le_maxLen ?_; omega) | (refine List.forall_mem_cons.2 ⟨?_, ?_⟩) | (simp only [go_sem, Nat.reduceAdd, Nat.reduceLT, List.mem_cons, List.not_mem_nil, forall_eq]; done)))
    all_goals (first | rfl | omega | trace_state)
  · have e : dueQ u cs s (w && b) (if (w && b) = true then qa.q else ⟨[], 0⟩) (w2 && b2) (if (w2 && b2) = true then qb.q else ⟨[], 0⟩) = none := by
      unfold dueQ
      rw [if_neg (show ¬ c01 cs s from fun h => by have := h.1; omega), if_neg (show ¬ c02 u s from fun h => by have := h.1; omega), if_neg (show ¬ c03 u s from fun h => by have := h.1; omega), if_neg (fun h => hc h.2), if_neg fun h => by have := h.1; omega, if_neg fun h => by have := h.1; omega]
    rw [e, show decide ((none : Option Pl) = some s.q) = false from rfl]
    clear hqa hb e hqb hb2
    cases w with
    | false =>
      clear hc
      refine Ctr.of (n := 231) (rs := [.tmp 6]) Try.func220 rfl rfl Try.ntmps220 rfl rfl (by kernel_rfl) Try.checked.mixed ?_
      simp (disch := first | omega | decide +kernel) only [hes, D.ints, go_sem, Nat.reduceEqDiff, Nat.reduceLT, Nat.reduceAdd, Nat.reduceMul, Nat.reduceSub, ↓reduceIte, reduceCtorEq, Nat.reduceLeDiff, Nat.reduceSubDiff, Nat.reduceBEq]
      (repeat' (first | (refine gsel_split (fun h => ?_) (fun h => ?_) <;> (have h' := h) <;> (try simp only [decide_eq_true_eq, decide_eq_false_iff_not, Bool.not_eq_true', Bool.not_eq_false', bne_iff_ne, ne_eq, beq_iff_eq, bne_eq_false_iff_eq, beq_eq_false_iff_ne, Int.ofNat_lt, Int.ofNat_le, Int.not_lt, Int.not_le, Decidable.not_not, Bool.and_eq_true, Bool.or_eq_true, Bool.or_eq_false_iff, gt_iff_lt, ge_iff_le] at h') <;> first | (exfalso; omega) | (simp (disch := first | omega | decide +kernel) only [h, D.ints, hes, hr, go_sem, Nat.reduceEqDiff, Nat.reduceLT, Nat.reduceAdd, Nat.reduceMul, Nat.reduceSub, ↓reduceIte, reduceCtorEq, Nat.reduceLeDiff, Nat.reduceSubDiff, Nat.reduceBEq] <;> clear h)) | ((first | refine callX_new (c1) rfl (by decide) ?_ | refine callY_new (c1) rfl ?_ | refine callX_new (a1) rfl (by decide) ?_ | refine callY_new (a1) rfl ?_ | refine hE _ _ ret_ne ?_ | refine hE _ _ exit_ne ?_) <;> try simp (disch := first | omega | decide +kernel) only [D.ints, hes, hr, go_sem, Nat.reduceEqDiff, Nat.reduceLT, Nat.reduceAdd, Nat.reduceMul, Nat.reduceSub, ↓reduceIte, reduceCtorEq, Nat.reduceLeDiff, Nat.reduceSubDiff, Nat.reduceBEq]) | (refine hN _ ?_ ?_ Wk.kk) | (with_reducible refine And.intro ?_ ?_) | (with_reducible omega) | (exact ok_ints) | (exact cells_ints) | (exact no_mem) | (with_reducible exact plain_ints) | (refine le_maxLen ?_; omega) | (refine List.forall_mem_cons.2 ⟨?_, ?_⟩) | (simp only [go_sem, Nat.reduceAdd, Nat.reduceLT, List.mem_cons, List.not_mem_nil, forall_eq]; done)))
      all_goals (first | rfl | omega | trace_state)
    | true =>
      have hesA := hesA rfl
      have p1 := p1 rfl
      simp only [Bool.and_eq_true, decide_eq_true_eq] at hw
      cases b with
      | false =>
        clear hc
        refine Ctr.of (n := 231) (rs := [.tmp 6]) Try.func220 rfl rfl Try.ntmps220 rfl rfl (by kernel_rfl) Try.checked.mixed ?_
        simp (disch := first | omega | decide +kernel) only [hes, D.ints, go_sem, Nat.reduceEqDiff, Nat.reduceLT, Nat.reduceAdd, Nat.reduceMul, Nat.reduceSub, ↓reduceIte, reduceCtorEq, Nat.reduceLeDiff, Nat.reduceSubDiff, Nat.reduceBEq]
        (repeat' (first | (refine gsel_split (fun h => ?_) (fun h => ?_) <;> (have h' := h) <;> (try simp only [decide_eq_true_eq, decide_eq_false_iff_not, Bool.not_eq_true', Bool.not_eq_false', bne_iff_ne, ne_eq, beq_iff_eq, bne_eq_false_iff_eq, beq_eq_false_iff_ne, Int.ofNat_lt, Int.ofNat_le, Int.not_lt, Int.not_le, Decidable.not_not, Bool.and_eq_true, Bool.or_eq_true, Bool.or_eq_false_iff, gt_iff_lt, ge_iff_le] at h') <;> first | (exfalso; omega) | (simp (disch := first | omega | decide +kernel) only [h, D.ints, hes, hr, hesA, go_sem, Nat.reduceEqDiff, Nat.reduceLT, Nat.reduceAdd, Nat.reduceMul, Nat.reduceSub, ↓reduceIte, reduceCtorEq, Nat.reduceLeDiff, Nat.reduceSubDiff, Nat.reduceBEq] <;> clear h)) | ((first | refine callX_new (c1) rfl (by decide) ?_ | refine callY_new (c1) rfl ?_ | refine callX_new (a1) rfl (by decide) ?_ | refine callY_new (a1) rfl ?_ | refine callX_new (p1) rfl (by decide) ?_ | refine callY_new (p1) rfl ?_ | refine hE _ _ ret_ne ?_ | refine hE _ _ exit_ne ?_) <;> try simp (disch := first | omega | decide +kernel) only [D.ints, hes, hr, hesA, go_sem, Nat.reduceEqDiff, Nat.reduceLT, Nat.reduceAdd, Nat.reduceMul, Nat.reduceSub, ↓reduceIte, reduceCtorEq, Nat.reduceLeDiff, Nat.reduceSubDiff, Nat.reduceBEq]) | (refine hN _ ?_ ?_ Wk.kk) | (with_reducible refine And.intro ?_ ?_) | (with_reducible omega) | (exact ok_ints) | (exact cells_ints) | (exact no_mem) | (with_reducible exact plain_ints) | (refine le_maxLen ?_; omega) | (refine List.forall_mem_cons.2 ⟨?_, ?_⟩) | (simp only [go_sem, Nat.reduceAdd, Nat.reduceLT, List.mem_cons, List.not_mem_nil, forall_eq]; done)))
        all_goals (first | rfl | omega | trace_state)
      | true =>
        cases w2 with
        | false =>
          clear hc
          refine Ctr.of (n := 231) (rs := [.tmp 6]) Try.func220 rfl rfl Try.ntmps220 rfl rfl (by kernel_rfl) Try.checked.mixed ?_
          simp (disch := first | omega | decide +kernel) only [hes, D.ints, go_sem, Nat.reduceEqDiff, Nat.reduceLT, Nat.reduceAdd, Nat.reduceMul, Nat.reduceSub, ↓reduceIte, reduceCtorEq, Nat.reduceLeDiff, Nat.reduceSubDiff, Nat.reduceBEq]
          (repeat' (first | (refine gsel_split (fun h => ?_) (fun h => ?_) <;> (have h' := h) <;> (try simp only [decide_eq_true_eq, decide_eq_false_iff_not, Bool.not_eq_true', Bool.not_eq_false', bne_iff_ne, ne_eq, beq_iff_eq, bne_eq_false_iff_eq, beq_eq_false_iff_ne, Int.ofNat_lt, Int.ofNat_le, Int.not_lt, Int.not_le, Decidable.not_not, Bool.and_eq_true, Bool.or_eq_true, Bool.or_eq_false_iff, gt_iff_lt, ge_iff_le] at h') <;> first | (exfalso; omega) | (simp (disch := first | omega | decide +kernel) only [h, D.ints, hes, hr, hesA, go_sem, Nat.reduceEqDiff, Nat.reduceLT, Nat.reduceAdd, Nat.reduceMul, Nat.reduceSub, ↓reduceIte, reduceCtorEq, Nat.reduceLeDiff, Nat.reduceSubDiff, Nat.reduceBEq] <;> clear h)) | ((first | refine callX_new (c1) rfl (by decide) ?_ | refine callY_new (c1) rfl ?_ | refine callX_new (a1) rfl (by decide) ?_ | refine callY_new (a1) rfl ?_ | refine callX_new (a2) rfl (by decide) ?_ | refine callY_new (a2) rfl ?_ | refine callX_new (p1) rfl (by decide) ?_ | refine callY_new (p1) rfl ?_ | refine hE _ _ ret_ne ?_ | refine hE _ _ exit_ne ?_) <;> try simp (disch := first | omega | decide +kernel) only [D.ints, hes, hr, hesA, go_sem, Nat.reduceEqDiff, Nat.reduceLT, Nat.reduceAdd, Nat.reduceMul, Nat.reduceSub, ↓reduceIte, reduceCtorEq, Nat.reduceLeDiff, Nat.reduceSubDiff, Nat.reduceBEq]) | (refine hN _ ?_ ?_ Wk.kk) | (with_reducible refine And.intro ?_ ?_) | (with_reducible omega) | (exact ok_ints) | (exact cells_ints) | (exact no_mem) | (with_reducible exact plain_ints) | (refine le_maxLen ?_; omega) | (refine List.forall_mem_cons.2 ⟨?_, ?_⟩) | (simp only [go_sem, Nat.reduceAdd, Nat.reduceLT, List.mem_cons, List.not_mem_nil, forall_eq]; done)))
          all_goals (first | rfl | omega | trace_state)
        | true =>
          have hesB := hesB rfl
          have p2 := p2 rfl
          simp only [Bool.and_eq_true, decide_eq_true_eq] at hw2
          cases b2 with
          | false =>
            clear hc
            refine Ctr.of (n := 231) (rs := [.tmp 6]) Try.func220 rfl rfl Try.ntmps220 rfl rfl (by kernel_rfl) Try.checked.mixed ?_
            simp (disch := first | omega | decide +kernel) only [hes, D.ints, go_sem, Nat.reduceEqDiff, Nat.reduceLT, Nat.reduceAdd, Nat.reduceMul, Nat.reduceSub, ↓reduceIte, reduceCtorEq, Nat.reduceLeDiff, Nat.reduceSubDiff, Nat.reduceBEq]
            (repeat' (first | (refine gsel_split (fun h => ?_) (fun h => ?_) <;> (have h' := h) <;> (try simp only [decide_eq_true_eq, decide_eq_false_iff_not, Bool.not_eq_true', Bool.not_eq_false', bne_iff_ne, ne_eq, beq_iff_eq, bne_eq_false_iff_eq, beq_eq_false_iff_ne, Int.ofNat_lt, Int.ofNat_le, Int.not_lt, Int.not_le, Decidable.not_not, Bool.and_eq_true, Bool.or_eq_true, Bool.or_eq_false_iff, gt_iff_lt, ge_iff_le] at h') <;> first | (exfalso; omega) | (simp (disch := first | omega | decide +kernel) only [h, D.ints, hes, hr, hesA, hesB, go_sem, Nat.reduceEqDiff, Nat.reduceLT, Nat.reduceAdd, Nat.reduceMul, Nat.reduceSub, ↓reduceIte, reduceCtorEq, Nat.reduceLeDiff, Nat.reduceSubDiff, Nat.reduceBEq] <;> clear h)) | ((first | refine callX_new (c1) rfl (by decide) ?_ | refine callY_new (c1) rfl ?_ | refine callX_new (a1) rfl (by decide) ?_ | refine callY_new (a1) rfl ?_ | refine callX_new (a2) rfl (by decide) ?_ | refine callY_new (a2) rfl ?_ | refine callX_new (p1) rfl (by decide) ?_ | refine callY_new (p1) rfl ?_ | refine callX_new (p2) rfl (by decide) ?_ | refine callY_new (p2) rfl ?_ | refine hE _ _ ret_ne ?_ | refine hE _ _ exit_ne ?_) <;> try simp (disch := first | omega | decide +kernel) only [D.ints, hes, hr, hesA, hesB, go_sem, Nat.reduceEqDiff, Nat.reduceLT, Nat.reduceAdd, Nat.reduceMul, Nat.reduceSub, ↓reduceIte, reduceCtorEq, Nat.reduceLeDiff, Nat.reduceSubDiff, Nat.reduceBEq]) | (refine hN _ ?_ ?_ Wk.kk) | (with_reducible refine And.intro ?_ ?_) | (with_reducible omega) | (exact ok_ints) | (exact cells_ints) | (exact no_mem) | (with_reducible exact plain_ints) | (refine le_maxLen ?_; omega) | (refine List.forall_mem_cons.2 ⟨?_, ?_⟩) | (simp only [go_sem, Nat.reduceAdd, Nat.reduceLT, List.mem_cons, List.not_mem_nil, forall_eq]; done)))
            all_goals (first | rfl | omega | trace_state)
          | true =>
            simp only [Bool.and_self, true_and] at hc
            refine Ctr.of (n := 231) (rs := [.tmp 6]) Try.func220 rfl rfl Try.ntmps220 rfl rfl (by kernel_rfl) Try.checked.mixed ?_
            simp (disch := first | omega | decide +kernel) only [hes, D.ints, go_sem, Nat.reduceEqDiff, Nat.reduceLT, Nat.reduceAdd, Nat.reduceMul, Nat.reduceSub, ↓reduceIte, reduceCtorEq, Nat.reduceLeDiff, Nat.reduceSubDiff, Nat.reduceBEq]
            (repeat' (first | (refine gsel_split (fun h => ?_) (fun h => ?_) <;> (have h' := h) <;> (try simp only [decide_eq_true_eq, decide_eq_false_iff_not, Bool.not_eq_true', Bool.not_eq_false', bne_iff_ne, ne_eq, beq_iff_eq, bne_eq_false_iff_eq, beq_eq_false_iff_ne, Int.ofNat_lt, Int.ofNat_le, Int.not_lt, Int.not_le, Decidable.not_not, Bool.and_eq_true, Bool.or_eq_true, Bool.or_eq_false_iff, gt_iff_lt, ge_iff_le] at h') <;> first | (exfalso; omega) | (simp (disch := first | omega | decide +kernel) only [h, D.ints, hes, hr, hesA, hesB, go_sem, Nat.reduceEqDiff, Nat.reduceLT, Nat.reduceAdd, Nat.reduceMul, Nat.reduceSub, ↓reduceIte, reduceCtorEq, Nat.reduceLeDiff, Nat.reduceSubDiff, Nat.reduceBEq] <;> clear h)) | ((first | refine callX_new (c1) rfl (by decide) ?_ | refine callY_new (c1) rfl ?_ | refine callX_new (a1) rfl (by decide) ?_ | refine callY_new (a1) rfl ?_ | refine callX_new (a2) rfl (by decide) ?_ | refine callY_new (a2) rfl ?_ | refine callX_new (p1) rfl (by decide) ?_ | refine callY_new (p1) rfl ?_ | refine callX_new (p2) rfl (by decide) ?_ | refine callY_new (p2) rfl ?_ | refine hE _ _ ret_ne ?_ | refine hE _ _ exit_ne ?_) <;> try simp (disch := first | omega | decide +kernel) only [D.ints, hes, hr, hesA, hesB, go_sem, Nat.reduceEqDiff, Nat.reduceLT, Nat.reduceAdd, Nat.reduceMul, Nat.reduceSub, ↓reduceIte, reduceCtorEq, Nat.reduceLeDiff, Nat.reduceSubDiff, Nat.reduceBEq]) | (refine hN _ ?_ ?_ Wk.kk) | (with_reducible refine And.intro ?_ ?_) | (with_reducible omega) | (exact ok_ints) | (exact cells_ints) | (exact no_mem) | (with_reducible exact plain_ints) | (refine le_maxLen ?_; omega) | (refine List.forall_mem_cons.2 ⟨?_, ?_⟩) | (simp only [go_sem, Nat.reduceAdd, Nat.reduceLT, List.mem_cons, List.not_mem_nil, forall_eq]; done)))
            all_goals (first | rfl | omega | trace_state)

set_option maxHeartbeats 16000000 in
theorem l16Correct_o (s : PSt) (hs : st.getD k PSt.z = s) (hq : okPl u s.q = true) (qa : PSt) (w b : Bool) (hw : (decide (0 ≤ s.l) && decide (s.l ≤ (k : Int) - 1)) = w) (hqa : w = true → st.getD s.l.toNat PSt.z = qa) (hb : w = true → okPl u qa.q = b) (b2 : Bool) (q2 : Pl) (hr : ¬ (1 ≤ s.ru ∧ s.ru ≤ 6)) : Ctr Try.prog 220 [.agg [.int .i64 u, .slice (cs.map D.ints)], .slice (st.map D.pst), .int .i64 k] false (.d (.bool (decide (dueQ u cs s (w && b) (if (w && b) = true then qa.q else ⟨[], 0⟩) b2 q2 = some s.q)))) [] := by
  have huv := okVars_iff.1 hu
  have hes : el (st.map D.pst) k = D.pst s := by rw [← hs]; exact el_pst hk
  have hxk := hx k
  rw [hs] at hxk
  have c1 := l16Plane_ok u s.q hu (by omega)
  rw [hq] at c1
  have a1 := l1In_ok s.l 0 ((k : Int) - 1)
  rw [hw] at a1
  have hesA : w = true → el (st.map D.pst) s.l.toNat = D.pst qa := fun h => by
    rw [h] at hw
    simp only [Bool.and_eq_true, decide_eq_true_eq] at hw
    rw [← hqa h]; exact el_pst (by omega)
  have p1 : w = true → Ctr Try.prog 264 [.int .i64 u, D.pl qa.q] false (.d (.bool b)) [] := fun h => by
    have := l16Plane_ok u qa.q hu (by have := hx s.l.toNat; rw [hqa h] at this; omega)
    rw [hb h] at this; exact this
  have n1 : ¬ s.ru = 1 := fun h => hr (by omega)
  have n2 : ¬ s.ru = 2 := fun h => hr (by omega)
  have n3 : ¬ s.ru = 3 := fun h => hr (by omega)
  have n4 : ¬ s.ru = 4 := fun h => hr (by omega)
  have n5 : ¬ s.ru = 5 := fun h => hr (by omega)
  have n6 : ¬ s.ru = 6 := fun h => hr (by omega)
  have e : ∀ B1 Q1, dueQ u cs s B1 Q1 b2 q2 = none := fun B1 Q1 => by
    unfold dueQ
    rw [if_neg (show ¬ c01 cs s from fun h => by have := h.1; omega), if_neg (show ¬ c02 u s from fun h => by have := h.1; omega), if_neg (show ¬ c03 u s from fun h => by have := h.1; omega), if_neg fun h => by have := h.1; omega, if_neg fun h => by have := h.1; omega, if_neg fun h => by have := h.1; omega]
  rw [e, show decide ((none : Option Pl) = some s.q) = false from rfl]
  clear hqa hb
  cases w with
  | false =>
    refine Ctr.of (n := 231) (rs := [.tmp 6]) Try.func220 rfl rfl Try.ntmps220 rfl rfl (by kernel_rfl) Try.checked.mixed ?_
    simp (disch := first | omega | decide +kernel) only [hes, D.ints, go_sem, Nat.reduceEqDiff, Nat.reduceLT, Nat.reduceAdd, Nat.reduceMul, Nat.reduceSub, ↓reduceIte, reduceCtorEq, Nat.reduceLeDiff, Nat.reduceSubDiff, Nat.reduceBEq]
    (repeat' (first | (refine gsel_split (fun h => ?_) (fun h => ?_) <;> (have h' := h) <;> (try simp only [decide_eq_true_eq, decide_eq_false_iff_not, Bool.not_eq_true', Bool.not_eq_false', bne_iff_ne, ne_eq, beq_iff_eq, bne_eq_false_iff_eq, beq_eq_false_iff_ne, Int.ofNat_lt, Int.ofNat_le, Int.not_lt, Int.not_le, Decidable.not_not, Bool.and_eq_true, Bool.or_eq_true, Bool.or_eq_false_iff, gt_iff_lt, ge_iff_le] at h') <;> first | (exfalso; omega) | (simp (disch := first | omega | decide +kernel) only [h, D.ints, hes, go_sem, Nat.reduceEqDiff, Nat.reduceLT, Nat.reduceAdd, Nat.reduceMul, Nat.reduceSub, ↓reduceIte, reduceCtorEq, Nat.reduceLeDiff, Nat.reduceSubDiff, Nat.reduceBEq] <;> clear h)) | ((first | refine callX_new (c1) rfl (by decide) ?_ | refine callY_new (c1) rfl ?_ | refine callX_new (a1) rfl (by decide) ?_ | refine callY_new (a1) rfl ?_ | refine hE _ _ ret_ne ?_ | refine hE _ _ exit_ne ?_) <;> try simp (disch := first | omega | decide +kernel) only [D.ints, hes, go_sem, Nat.reduceEqDiff, Nat.reduceLT, Nat.reduceAdd, Nat.reduceMul, Nat.reduceSub, ↓reduceIte, reduceCtorEq, Nat.reduceLeDiff, Nat.reduceSubDiff, Nat.reduceBEq]) | (refine hN _ ?_ ?_ Wk.kk) | (with_reducible refine And.intro ?_ ?_) | (with_reducible omega) | (exact ok_ints) | (exact cells_ints) | (exact no_mem) | (with_reducible exact plain_ints) | (refine le_maxLen ?_; omega) | (refine List.forall_mem_cons.2 ⟨?_, ?_⟩) | (simp only [go_sem, Nat.reduceAdd, Nat.reduceLT, List.mem_cons, List.not_mem_nil, forall_eq]; done)))
    all_goals (first | rfl | omega | trace_state)
  | true =>
    have hesA := hesA rfl
    have p1 := p1 rfl
    simp only [Bool.and_eq_true, decide_eq_true_eq] at hw
    refine Ctr.of (n := 231) (rs := [.tmp 6]) Try.func220 rfl rfl Try.ntmps220 rfl rfl (by kernel_rfl) Try.checked.mixed ?_
    simp (disch := first | omega | decide +kernel) only [hes, D.ints, go_sem, Nat.reduceEqDiff, Nat.reduceLT, Nat.reduceAdd, Nat.reduceMul, Nat.reduceSub, ↓reduceIte, reduceCtorEq, Nat.reduceLeDiff, Nat.reduceSubDiff, Nat.reduceBEq]
    (repeat' (first | (refine gsel_split (fun h => ?_) (fun h => ?_) <;> (have h' := h) <;> (try simp only [decide_eq_true_eq, decide_eq_false_iff_not, Bool.not_eq_true', Bool.not_eq_false', bne_iff_ne, ne_eq, beq_iff_eq, bne_eq_false_iff_eq, beq_eq_false_iff_ne, Int.ofNat_lt, Int.ofNat_le, Int.not_lt, Int.not_le, Decidable.not_not, Bool.and_eq_true, Bool.or_eq_true, Bool.or_eq_false_iff, gt_iff_lt, ge_iff_le] at h') <;> first | (exfalso; omega) | (simp (disch := first | omega | decide +kernel) only [h, D.ints, hes, hesA, go_sem, Nat.reduceEqDiff, Nat.reduceLT, Nat.reduceAdd, Nat.reduceMul, Nat.reduceSub, ↓reduceIte, reduceCtorEq, Nat.reduceLeDiff, Nat.reduceSubDiff, Nat.reduceBEq] <;> clear h)) | ((first | refine callX_new (c1) rfl (by decide) ?_ | refine callY_new (c1) rfl ?_ | refine callX_new (a1) rfl (by decide) ?_ | refine callY_new (a1) rfl ?_ | refine callX_new (p1) rfl (by decide) ?_ | refine callY_new (p1) rfl ?_ | refine hE _ _ ret_ne ?_ | refine hE _ _ exit_ne ?_) <;> try simp (disch := first | omega | decide +kernel) only [D.ints, hes, hesA, go_sem, Nat.reduceEqDiff, Nat.reduceLT, Nat.reduceAdd, Nat.reduceMul, Nat.reduceSub, ↓reduceIte, reduceCtorEq, Nat.reduceLeDiff, Nat.reduceSubDiff, Nat.reduceBEq]) | (refine hN _ ?_ ?_ Wk.kk) | (with_reducible refine And.intro ?_ ?_) | (with_reducible omega) | (exact ok_ints) | (exact cells_ints) | (exact no_mem) | (with_reducible exact plain_ints) | (refine le_maxLen ?_; omega) | (refine List.forall_mem_cons.2 ⟨?_, ?_⟩) | (simp only [go_sem, Nat.reduceAdd, Nat.reduceLT, List.mem_cons, List.not_mem_nil, forall_eq]; done)))
    all_goals (first | rfl | omega | trace_state)

theorem l16Correct_ok : Ctr Try.prog 220 [.agg [.int .i64 u, .slice (cs.map D.ints)], .slice (st.map D.pst), .int .i64 k] false (.d (.bool (corrP u cs st k))) [] := by
  cases hq : okPl u (st.getD k PSt.z).q with
  | false => exact l16Correct_no hu hk hl hx hcl hcs hcx hq
  | true =>
    have ecor : corrP u cs st k = decide (dueP u cs st k = some (st.getD k PSt.z).q) := by unfold corrP; rw [hq, Bool.true_and]
    rw [ecor]
    by_cases h1 : (st.getD k PSt.z).ru = 1
    · exact l16Correct_1 hu hk hl hx hcl hcs hcx _ rfl hq _ _ _ rfl (fun _ => rfl) (fun _ => rfl) _ _ h1
    by_cases h2 : (st.getD k PSt.z).ru = 2
    · exact l16Correct_2 hu hk hl hx hcl hcs hcx _ rfl hq _ _ _ rfl (fun _ => rfl) (fun _ => rfl) _ _ h2
    by_cases h3 : (st.getD k PSt.z).ru = 3
    · exact l16Correct_3 hu hk hl hx hcl hcs hcx _ rfl hq _ _ _ rfl (fun _ => rfl) (fun _ => rfl) _ _ h3
    by_cases h4 : (st.getD k PSt.z).ru = 4
    · exact l16Correct_4 hu hk hl hx hcl hcs hcx _ rfl hq _ _ _ rfl (fun _ => rfl) (fun _ => rfl) _ _ _ rfl (fun _ => rfl) (fun _ => rfl) h4
    by_cases h5 : (st.getD k PSt.z).ru = 5
    · exact l16Correct_5 hu hk hl hx hcl hcs hcx _ rfl hq _ _ _ rfl (fun _ => rfl) (fun _ => rfl) _ _ h5
    by_cases h6 : (st.getD k PSt.z).ru = 6
    · exact l16Correct_6 hu hk hl hx hcl hcs hcx _ rfl hq _ _ _ rfl (fun _ => rfl) (fun _ => rfl) _ _ h6
    · exact l16Correct_o hu hk hl hx hcl hcs hcx _ rfl hq _ _ _ rfl (fun _ => rfl) (fun _ => rfl) _ _ (by omega)
end
end Abs.Y
