/- What functions of this program compute, as contracts over plain data, with what the proofs need of them. No condition. -/
import Derived.Test.YtoppjihdipidiaaC1
set_option linter.all false
namespace Abs.Y
open Go Go.Proofs Abs
set_option maxRecDepth 100000

/-! ### The program's steps -/
theorem getD_mapc {α β : Type} (f : α → β) (z : α) (z' : β) (l : List α) {i : Nat} (h : i < l.length) : (l.map f).getD i z' = f (l.getD i z) := by
  simp only [List.getD_eq_getElem?_getD, List.getElem?_map, List.getElem?_eq_getElem h, Option.map_some, Option.getD_some]
section
variable {p : Int} {u : Nat} (hp : 1 < p ∧ p ≤ 5) (hu : u ≤ 6)
include hp hu
set_option maxHeartbeats 4000000 in
theorem polyBefore_ok {cs q : List (List Int)} {st : List PcS} {k : Nat} (i : Int) (hk : k < st.length) (hl : st.length ≤ 1048576) (hx : ∀ j, (st.getD j PcS.z).poly.length ≤ 1048576) :
    Ctr Try.prog 221 [.ptr (D.alg p u cs q), .slice (st.map D.pc), .int .i64 k, .int .i64 i] true
      (.tup [.d (.slice (if pbT p u st k i then (pbV u st i).map (.int .i64) else [])), .d (.bool (pbT p u st k i))]) [] := by
  have c1 := within_ok i 0 ((k : Int) - 1)
  unfold pbT pbV
  by_cases h : 0 ≤ i ∧ i ≤ (k : Int) - 1
  · obtain ⟨j, rfl⟩ : ∃ j : Nat, i = j := ⟨i.toNat, by omega⟩
    have hei := el_pcs (xs := st) (i := j) (by omega)
    have c2 := is_ok hp hu (a := (st.getD j PcS.z).poly) (by have := hx j; omega)
    rw [decide_eq_true h.1, decide_eq_true h.2] at *
    simp only [Bool.true_and, Int.toNat_natCast] at *
    cases hT : isT p (2 ^ u) (st.getD j PcS.z).poly with
    | true =>
      have c3 := Ctr.data1 (dense_ok hp hu (a := (st.getD j PcS.z).poly) (by have := hx j; omega) hT)
      rw [hT] at c2
      generalize dnT (2 ^ u) (st.getD j PcS.z).poly = w at *
      refine Ctr.of (n := 38) (rs := [.tmp 8, .tmp 9]) Try.func221 rfl rfl Try.ntmps221 rfl rfl (by kernel_rfl) Try.checked.mixed ?_
      simp (disch := first | omega | decide +kernel) only [D.alg, D.ints, hei, go_sem, Nat.reduceEqDiff, Nat.reduceLT, Nat.reduceAdd, Nat.reduceMul, Nat.reduceSub, ↓reduceIte, reduceCtorEq, Nat.reduceLeDiff, Nat.reduceSubDiff, Nat.reduceBEq]
      (repeat' (first | (refine gsel_split (fun h => ?_) (fun h => ?_) <;> (have h' := h) <;> (try simp only [decide_eq_true_eq, decide_eq_false_iff_not, Bool.not_eq_true', Bool.not_eq_false', bne_iff_ne, ne_eq, beq_iff_eq, bne_eq_false_iff_eq, beq_eq_false_iff_ne, Int.ofNat_lt, Int.ofNat_le, Int.not_lt, Int.not_le, Decidable.not_not, Bool.and_eq_true, Bool.or_eq_true, Bool.or_eq_false_iff, gt_iff_lt, ge_iff_le] at h') <;> first | (exfalso; omega) | (simp (disch := first | omega | decide +kernel) only [h, D.ints, hei, go_sem, Nat.reduceEqDiff, Nat.reduceLT, Nat.reduceAdd, Nat.reduceMul, Nat.reduceSub, ↓reduceIte, reduceCtorEq, Nat.reduceLeDiff, Nat.reduceSubDiff, Nat.reduceBEq] <;> clear h)) | ((first | refine callX_new (c1) rfl (by decide) ?_ | refine callY_new (c1) rfl ?_ | refine callX_new (c2) rfl (by decide) ?_ | refine callY_new (c2) rfl ?_ | refine callX_shared (c3) rfl (by decide) ?_ | refine callY_shared (c3) rfl ?_ | refine hE _ _ ret_ne ?_ | refine hE _ _ exit_ne ?_) <;> try simp (disch := first | omega | decide +kernel) only [D.ints, hei, go_sem, Nat.reduceEqDiff, Nat.reduceLT, Nat.reduceAdd, Nat.reduceMul, Nat.reduceSub, ↓reduceIte, reduceCtorEq, Nat.reduceLeDiff, Nat.reduceSubDiff, Nat.reduceBEq]) | (refine hN _ ?_ ?_ Wk.kk) | (with_reducible refine And.intro ?_ ?_) | (with_reducible omega) | (exact ok_ints) | (exact cells_ints) | (exact no_mem) | (with_reducible exact plain_ints) | (refine le_maxLen ?_; omega) | (refine List.forall_mem_cons.2 ⟨?_, ?_⟩) | (simp only [go_sem, Nat.reduceAdd, Nat.reduceLT, List.mem_cons, List.not_mem_nil, forall_eq]; done)))
      all_goals (first | omega | exact ret_s2 [] rfl rfl | exact ret_s2 [8] rfl rfl | trace_state)
    | false =>
      rw [hT] at c2
      refine Ctr.of (n := 38) (rs := [.tmp 8, .tmp 9]) Try.func221 rfl rfl Try.ntmps221 rfl rfl (by kernel_rfl) Try.checked.mixed ?_
      simp (disch := first | omega | decide +kernel) only [D.alg, D.ints, hei, go_sem, Nat.reduceEqDiff, Nat.reduceLT, Nat.reduceAdd, Nat.reduceMul, Nat.reduceSub, ↓reduceIte, reduceCtorEq, Nat.reduceLeDiff, Nat.reduceSubDiff, Nat.reduceBEq]
      (repeat' (first | (refine gsel_split (fun h => ?_) (fun h => ?_) <;> (have h' := h) <;> (try simp only [decide_eq_true_eq, decide_eq_false_iff_not, Bool.not_eq_true', Bool.not_eq_false', bne_iff_ne, ne_eq, beq_iff_eq, bne_eq_false_iff_eq, beq_eq_false_iff_ne, Int.ofNat_lt, Int.ofNat_le, Int.not_lt, Int.not_le, Decidable.not_not, Bool.and_eq_true, Bool.or_eq_true, Bool.or_eq_false_iff, gt_iff_lt, ge_iff_le] at h') <;> first | (exfalso; omega) | (simp (disch := first | omega | decide +kernel) only [h, D.ints, hei, go_sem, Nat.reduceEqDiff, Nat.reduceLT, Nat.reduceAdd, Nat.reduceMul, Nat.reduceSub, ↓reduceIte, reduceCtorEq, Nat.reduceLeDiff, Nat.reduceSubDiff, Nat.reduceBEq] <;> clear h)) | ((first | refine callX_new (c1) rfl (by decide) ?_ | refine callY_new (c1) rfl ?_ | refine callX_new (c2) rfl (by decide) ?_ | refine callY_new (c2) rfl ?_ | refine hE _ _ ret_ne ?_ | refine hE _ _ exit_ne ?_) <;> try simp (disch := first | omega | decide +kernel) only [D.ints, hei, go_sem, Nat.reduceEqDiff, Nat.reduceLT, Nat.reduceAdd, Nat.reduceMul, Nat.reduceSub, ↓reduceIte, reduceCtorEq, Nat.reduceLeDiff, Nat.reduceSubDiff, Nat.reduceBEq]) | (refine hN _ ?_ ?_ Wk.kk) | (with_reducible refine And.intro ?_ ?_) | (with_reducible omega) | (exact ok_ints) | (exact cells_ints) | (exact no_mem) | (with_reducible exact plain_ints) | (refine le_maxLen ?_; omega) | (refine List.forall_mem_cons.2 ⟨?_, ?_⟩) | (simp only [go_sem, Nat.reduceAdd, Nat.reduceLT, List.mem_cons, List.not_mem_nil, forall_eq]; done)))
      all_goals (first | omega | exact ret_s2 [] rfl rfl | exact ret_s2 [8] rfl rfl | trace_state)
  · have hd : (decide (0 ≤ i) && decide (i ≤ (k : Int) - 1)) = false := by
      by_cases h0 : 0 ≤ i
      · rw [decide_eq_true h0, decide_eq_false (fun h1 => h ⟨h0, h1⟩)]; rfl
      · rw [decide_eq_false h0]; rfl
    rw [hd] at c1
    rw [hd, Bool.false_and]
    refine Ctr.of (n := 38) (rs := [.tmp 8, .tmp 9]) Try.func221 rfl rfl Try.ntmps221 rfl rfl (by kernel_rfl) Try.checked.mixed ?_
    simp (disch := first | omega | decide +kernel) only [D.alg, D.ints, go_sem, Nat.reduceEqDiff, Nat.reduceLT, Nat.reduceAdd, Nat.reduceMul, Nat.reduceSub, ↓reduceIte, reduceCtorEq, Nat.reduceLeDiff, Nat.reduceSubDiff, Nat.reduceBEq]
    (repeat' (first | (refine gsel_split (fun h => ?_) (fun h => ?_) <;> (have h' := h) <;> (try simp only [decide_eq_true_eq, decide_eq_false_iff_not, Bool.not_eq_true', Bool.not_eq_false', bne_iff_ne, ne_eq, beq_iff_eq, bne_eq_false_iff_eq, beq_eq_false_iff_ne, Int.ofNat_lt, Int.ofNat_le, Int.not_lt, Int.not_le, Decidable.not_not, Bool.and_eq_true, Bool.or_eq_true, Bool.or_eq_false_iff, gt_iff_lt, ge_iff_le] at h') <;> first | (exfalso; omega) | (simp (disch := first | omega | decide +kernel) only [h, D.ints, go_sem, Nat.reduceEqDiff, Nat.reduceLT, Nat.reduceAdd, Nat.reduceMul, Nat.reduceSub, ↓reduceIte, reduceCtorEq, Nat.reduceLeDiff, Nat.reduceSubDiff, Nat.reduceBEq] <;> clear h)) | ((first | refine callX_new (c1) rfl (by decide) ?_ | refine callY_new (c1) rfl ?_ | refine hE _ _ ret_ne ?_ | refine hE _ _ exit_ne ?_) <;> try simp (disch := first | omega | decide +kernel) only [D.ints, go_sem, Nat.reduceEqDiff, Nat.reduceLT, Nat.reduceAdd, Nat.reduceMul, Nat.reduceSub, ↓reduceIte, reduceCtorEq, Nat.reduceLeDiff, Nat.reduceSubDiff, Nat.reduceBEq]) | (refine hN _ ?_ ?_ Wk.kk) | (with_reducible refine And.intro ?_ ?_) | (with_reducible omega) | (exact ok_ints) | (exact cells_ints) | (exact no_mem) | (with_reducible exact plain_ints) | (refine le_maxLen ?_; omega) | (refine List.forall_mem_cons.2 ⟨?_, ?_⟩) | (simp only [go_sem, Nat.reduceAdd, Nat.reduceLT, List.mem_cons, List.not_mem_nil, forall_eq]; done)))
    all_goals (first | omega | exact ret_s2 [] rfl rfl | exact ret_s2 [8] rfl rfl | trace_state)
set_option maxHeartbeats 8000000 in
theorem pcDue_ok {cs : List (List Int)} {st : List PcS} {k : Nat} (hcl : cs.length ≤ 1048576) (hk : k < st.length) (hl : st.length ≤ 1048576) (hx : ∀ j, (st.getD j PcS.z).poly.length ≤ 1048576) :
    Ctr Try.prog 200 [.ptr (D.alg p u cs (cs.map (clauseD p u))), .slice (st.map D.pc), .int .i64 k] true
      (.tup [.d (.slice (((duePc p u cs st k).getD []).map (.int .i64))), .d (.bool (duePc p u cs st k).isSome)]) [] := by
  have p1 := polyBefore_ok hp hu (cs := cs) (q := cs.map (clauseD p u)) (st.getD k PcS.z).a hk hl hx
  have p2 := polyBefore_ok hp hu (cs := cs) (q := cs.map (clauseD p u)) (st.getD k PcS.z).b hk hl hx
  have hv1 := fun h => pbV_vec (p := p) (u := u) (st := st) (k := k) (i := (st.getD k PcS.z).a) (by omega) h
  have hv2 := fun h => pbV_vec (p := p) (u := u) (st := st) (k := k) (i := (st.getD k PcS.z).b) (by omega) h
  have hes := el_pcs (xs := st) (i := k) hk
  unfold duePc
  generalize pbT p u st k (st.getD k PcS.z).a = b1 at *
  generalize pbT p u st k (st.getD k PcS.z).b = b2 at *
  generalize pbV u st (st.getD k PcS.z).a = v1 at *
  generalize pbV u st (st.getD k PcS.z).b = v2 at *
  generalize st.getD k PcS.z = s at *
  have w1 := within_ok s.a 0 (((cs.map (clauseD p u)).length : Int) - 1)
  have w2 := within_ok s.x 0 (p - 1)
  have w3 := within_ok s.y 0 (p - 1)
  have w4 := isVar_ok u s.x
  have hql : (cs.map (clauseD p u)).length = cs.length := by simp
  by_cases hc1 : s.kind = 1 ∧ (0 ≤ s.a ∧ s.a ≤ (cs.length : Int) - 1) ∧ s.b = 0 ∧ s.x = 0 ∧ s.y = 0
  · have e : dueC p u cs s b1 b2 v1 v2 = some (clauseD p u (cs.getD s.a.toNat [])) := by unfold dueC; rw [if_pos hc1]
    obtain ⟨h1, ⟨hl0, hl1⟩, hb, hxx, hy⟩ := hc1
    rw [e]
    rw [decide_eq_true hl0, decide_eq_true (by rw [hql]; exact hl1)] at w1
    have hec := getD_mapc (clauseD p u) [] [] cs (i := s.a.toNat) (by omega)
    generalize cs.map (clauseD p u) = q at *
    generalize clauseD p u (cs.getD s.a.toNat []) = c at *
    refine Ctr.of (n := 166) (rs := [.tmp 6, .tmp 7]) Try.func200 rfl rfl Try.ntmps200 rfl rfl (by kernel_rfl) Try.checked.mixed ?_
    simp (disch := first | omega | decide +kernel) only [hes, D.ints, D.alg, go_sem, Nat.reduceEqDiff, Nat.reduceLT, Nat.reduceAdd, Nat.reduceMul, Nat.reduceSub, ↓reduceIte, reduceCtorEq, Nat.reduceLeDiff, Nat.reduceSubDiff, Nat.reduceBEq]
    (repeat' (first | (refine gsel_split (fun h => ?_) (fun h => ?_) <;> (have h' := h) <;> (try simp only [decide_eq_true_eq, decide_eq_false_iff_not, Bool.not_eq_true', Bool.not_eq_false', bne_iff_ne, ne_eq, beq_iff_eq, bne_eq_false_iff_eq, beq_eq_false_iff_ne, Int.ofNat_lt, Int.ofNat_le, Int.not_lt, Int.not_le, Decidable.not_not, Bool.and_eq_true, Bool.or_eq_true, Bool.or_eq_false_iff, gt_iff_lt, ge_iff_le] at h') <;> first | (exfalso; omega) | (simp (disch := first | omega | decide +kernel) only [h, D.ints, hes, hec, go_sem, Nat.reduceEqDiff, Nat.reduceLT, Nat.reduceAdd, Nat.reduceMul, Nat.reduceSub, ↓reduceIte, reduceCtorEq, Nat.reduceLeDiff, Nat.reduceSubDiff, Nat.reduceBEq] <;> clear h)) | ((first | refine callX_new (w1) rfl (by decide) ?_ | refine callY_new (w1) rfl ?_ | refine callX_shared (p1) rfl (by decide) ?_ | refine callY_shared (p1) rfl ?_ | refine callX_shared (p2) rfl (by decide) ?_ | refine callY_shared (p2) rfl ?_ | refine hE _ _ ret_ne ?_ | refine hE _ _ exit_ne ?_) <;> try simp (disch := first | omega | decide +kernel) only [D.ints, hes, hec, go_sem, Nat.reduceEqDiff, Nat.reduceLT, Nat.reduceAdd, Nat.reduceMul, Nat.reduceSub, ↓reduceIte, reduceCtorEq, Nat.reduceLeDiff, Nat.reduceSubDiff, Nat.reduceBEq]) | (refine hN _ ?_ ?_ Wk.kk) | (with_reducible refine And.intro ?_ ?_) | (with_reducible omega) | (exact ok_ints) | (exact cells_ints) | (exact no_mem) | (with_reducible exact plain_ints) | (refine le_maxLen ?_; omega) | (refine List.forall_mem_cons.2 ⟨?_, ?_⟩) | (simp only [go_sem, Nat.reduceAdd, Nat.reduceLT, List.mem_cons, List.not_mem_nil, forall_eq]; done)))
    all_goals (first | omega | exact ret_s2 [] rfl rfl | exact ret_s2 [8] rfl rfl | trace_state)
  by_cases hc2 : s.kind = 2 ∧ b1 = true ∧ b2 = true ∧ (0 ≤ s.x ∧ s.x ≤ p - 1) ∧ (0 ≤ s.y ∧ s.y ≤ p - 1)
  · have e : dueC p u cs s b1 b2 v1 v2 = some (addD p s.y (addD p s.x (List.replicate (2 ^ u) 0) v1) v2) := by unfold dueC; rw [if_neg hc1, if_pos hc2]
    obtain ⟨h1, rfl, rfl, ⟨hx0, hx1⟩, hy0, hy1⟩ := hc2
    rw [e]
    rw [decide_eq_true hx0, decide_eq_true hx1] at w2
    rw [decide_eq_true hy0, decide_eq_true hy1] at w3
    have g0 := Ctr.data1 (zero_ok hp hu)
    have hV := Vec.addD (p := p) (k := s.x) (by omega) (a := List.replicate (2 ^ u) 0) (by simp) (hv1 rfl).1
    have g1 := Ctr.data1 (plus_ok hp hu (k := s.x) (Vec.zero (p := p) (by omega) (2 ^ u)) (hv1 rfl) (by omega))
    have g2 := Ctr.data1 (plus_ok hp hu (k := s.y) hV (hv2 rfl) (by omega))
    generalize addD p s.y (addD p s.x (List.replicate (2 ^ u) 0) v1) v2 = r2 at *
    generalize addD p s.x (List.replicate (2 ^ u) 0) v1 = r1 at *
    generalize List.replicate (2 ^ u) (0 : Int) = z at *
    refine Ctr.of (n := 166) (rs := [.tmp 6, .tmp 7]) Try.func200 rfl rfl Try.ntmps200 rfl rfl (by kernel_rfl) Try.checked.mixed ?_
    simp (disch := first | omega | decide +kernel) only [hes, D.ints, D.alg, go_sem, Nat.reduceEqDiff, Nat.reduceLT, Nat.reduceAdd, Nat.reduceMul, Nat.reduceSub, ↓reduceIte, reduceCtorEq, Nat.reduceLeDiff, Nat.reduceSubDiff, Nat.reduceBEq]
    (repeat' (first | (refine gsel_split (fun h => ?_) (fun h => ?_) <;> (have h' := h) <;> (try simp only [decide_eq_true_eq, decide_eq_false_iff_not, Bool.not_eq_true', Bool.not_eq_false', bne_iff_ne, ne_eq, beq_iff_eq, bne_eq_false_iff_eq, beq_eq_false_iff_ne, Int.ofNat_lt, Int.ofNat_le, Int.not_lt, Int.not_le, Decidable.not_not, Bool.and_eq_true, Bool.or_eq_true, Bool.or_eq_false_iff, gt_iff_lt, ge_iff_le] at h') <;> first | (exfalso; omega) | (simp (disch := first | omega | decide +kernel) only [h, D.ints, hes, go_sem, Nat.reduceEqDiff, Nat.reduceLT, Nat.reduceAdd, Nat.reduceMul, Nat.reduceSub, ↓reduceIte, reduceCtorEq, Nat.reduceLeDiff, Nat.reduceSubDiff, Nat.reduceBEq] <;> clear h)) | ((first | refine callX_new (w2) rfl (by decide) ?_ | refine callY_new (w2) rfl ?_ | refine callX_new (w3) rfl (by decide) ?_ | refine callY_new (w3) rfl ?_ | refine callX_shared (p1) rfl (by decide) ?_ | refine callY_shared (p1) rfl ?_ | refine callX_shared (p2) rfl (by decide) ?_ | refine callY_shared (p2) rfl ?_ | refine callX_shared (g0) rfl (by decide) ?_ | refine callY_shared (g0) rfl ?_ | refine callX_shared (g1) rfl (by decide) ?_ | refine callY_shared (g1) rfl ?_ | refine callX_shared (g2) rfl (by decide) ?_ | refine callY_shared (g2) rfl ?_ | refine hE _ _ ret_ne ?_ | refine hE _ _ exit_ne ?_) <;> try simp (disch := first | omega | decide +kernel) only [D.ints, hes, go_sem, Nat.reduceEqDiff, Nat.reduceLT, Nat.reduceAdd, Nat.reduceMul, Nat.reduceSub, ↓reduceIte, reduceCtorEq, Nat.reduceLeDiff, Nat.reduceSubDiff, Nat.reduceBEq]) | (refine hN _ ?_ ?_ Wk.kk) | (with_reducible refine And.intro ?_ ?_) | (with_reducible omega) | (exact ok_ints) | (exact cells_ints) | (exact no_mem) | (with_reducible exact plain_ints) | (refine le_maxLen ?_; omega) | (refine List.forall_mem_cons.2 ⟨?_, ?_⟩) | (simp only [go_sem, Nat.reduceAdd, Nat.reduceLT, List.mem_cons, List.not_mem_nil, forall_eq]; done)))
    all_goals (first | omega | exact ret_s2 [] rfl rfl | exact ret_s2 [8] rfl rfl | trace_state)
  by_cases hc3 : s.kind = 3 ∧ b1 = true ∧ s.b = 0 ∧ (1 ≤ s.x ∧ s.x ≤ (u : Int)) ∧ s.y = 0
  · have e : dueC p u cs s b1 b2 v1 v2 = some (mulD p (2 ^ u) v1 (litD p u s.x)) := by unfold dueC; rw [if_neg hc1, if_neg hc2, if_pos hc3]
    obtain ⟨h1, rfl, hb, ⟨hx0, hx1⟩, hy⟩ := hc3
    rw [e]
    rw [decide_eq_true hx0, decide_eq_true hx1] at w4
    have g1 := literal_ok hp hu (l := s.x) (.inl ⟨hx0, hx1⟩)
    have g2 := Ctr.data1 (times_ok hp hu (hv1 rfl) (Vec.lit hp.1 u s.x))
    generalize mulD p (2 ^ u) v1 (litD p u s.x) = r2 at *
    generalize litD p u s.x = r1 at *
    refine Ctr.of (n := 166) (rs := [.tmp 6, .tmp 7]) Try.func200 rfl rfl Try.ntmps200 rfl rfl (by kernel_rfl) Try.checked.mixed ?_
    simp (disch := first | omega | decide +kernel) only [hes, D.ints, D.alg, go_sem, Nat.reduceEqDiff, Nat.reduceLT, Nat.reduceAdd, Nat.reduceMul, Nat.reduceSub, ↓reduceIte, reduceCtorEq, Nat.reduceLeDiff, Nat.reduceSubDiff, Nat.reduceBEq]
    (repeat' (first | (refine gsel_split (fun h => ?_) (fun h => ?_) <;> (have h' := h) <;> (try simp only [decide_eq_true_eq, decide_eq_false_iff_not, Bool.not_eq_true', Bool.not_eq_false', bne_iff_ne, ne_eq, beq_iff_eq, bne_eq_false_iff_eq, beq_eq_false_iff_ne, Int.ofNat_lt, Int.ofNat_le, Int.not_lt, Int.not_le, Decidable.not_not, Bool.and_eq_true, Bool.or_eq_true, Bool.or_eq_false_iff, gt_iff_lt, ge_iff_le] at h') <;> first | (exfalso; omega) | (simp (disch := first | omega | decide +kernel) only [h, D.ints, hes, go_sem, Nat.reduceEqDiff, Nat.reduceLT, Nat.reduceAdd, Nat.reduceMul, Nat.reduceSub, ↓reduceIte, reduceCtorEq, Nat.reduceLeDiff, Nat.reduceSubDiff, Nat.reduceBEq] <;> clear h)) | ((first | refine callX_new (w4) rfl (by decide) ?_ | refine callY_new (w4) rfl ?_ | refine callX_shared (p1) rfl (by decide) ?_ | refine callY_shared (p1) rfl ?_ | refine callX_shared (p2) rfl (by decide) ?_ | refine callY_shared (p2) rfl ?_ | refine callX_shared (g1) rfl (by decide) ?_ | refine callY_shared (g1) rfl ?_ | refine callX_shared (g2) rfl (by decide) ?_ | refine callY_shared (g2) rfl ?_ | refine hE _ _ ret_ne ?_ | refine hE _ _ exit_ne ?_) <;> try simp (disch := first | omega | decide +kernel) only [D.ints, hes, go_sem, Nat.reduceEqDiff, Nat.reduceLT, Nat.reduceAdd, Nat.reduceMul, Nat.reduceSub, ↓reduceIte, reduceCtorEq, Nat.reduceLeDiff, Nat.reduceSubDiff, Nat.reduceBEq]) | (refine hN _ ?_ ?_ Wk.kk) | (with_reducible refine And.intro ?_ ?_) | (with_reducible omega) | (exact ok_ints) | (exact cells_ints) | (exact no_mem) | (with_reducible exact plain_ints) | (refine le_maxLen ?_; omega) | (refine List.forall_mem_cons.2 ⟨?_, ?_⟩) | (simp only [go_sem, Nat.reduceAdd, Nat.reduceLT, List.mem_cons, List.not_mem_nil, forall_eq]; done)))
    all_goals (first | omega | exact ret_s2 [] rfl rfl | exact ret_s2 [8] rfl rfl | trace_state)
  have e : dueC p u cs s b1 b2 v1 v2 = none := by unfold dueC; rw [if_neg hc1, if_neg hc2, if_neg hc3]
  rw [e]
  rw [hql] at w1
  cases b1 <;> cases b2
  all_goals
    simp only [eq_self, true_and, false_and, and_false, not_false_eq_true, Bool.false_eq_true, not_true_eq_false] at hc2 hc3
    refine Ctr.of (n := 166) (rs := [.tmp 6, .tmp 7]) Try.func200 rfl rfl Try.ntmps200 rfl rfl (by kernel_rfl) Try.checked.mixed ?_
    simp (disch := first | omega | decide +kernel) only [hes, D.ints, D.alg, go_sem, Nat.reduceEqDiff, Nat.reduceLT, Nat.reduceAdd, Nat.reduceMul, Nat.reduceSub, ↓reduceIte, reduceCtorEq, Nat.reduceLeDiff, Nat.reduceSubDiff, Nat.reduceBEq]
    (repeat' (first | (refine gsel_split (fun h => ?_) (fun h => ?_) <;> (have h' := h) <;> (try simp only [decide_eq_true_eq, decide_eq_false_iff_not, Bool.not_eq_true', Bool.not_eq_false', bne_iff_ne, ne_eq, beq_iff_eq, bne_eq_false_iff_eq, beq_eq_false_iff_ne, Int.ofNat_lt, Int.ofNat_le, Int.not_lt, Int.not_le, Decidable.not_not, Bool.and_eq_true, Bool.or_eq_true, Bool.or_eq_false_iff, gt_iff_lt, ge_iff_le] at h') <;> first | (exfalso; omega) | (simp (disch := first | omega | decide +kernel) only [h, D.ints, hes, go_sem, Nat.reduceEqDiff, Nat.reduceLT, Nat.reduceAdd, Nat.reduceMul, Nat.reduceSub, ↓reduceIte, reduceCtorEq, Nat.reduceLeDiff, Nat.reduceSubDiff, Nat.reduceBEq] <;> clear h)) | ((first | refine callX_new (w1) rfl (by decide) ?_ | refine callY_new (w1) rfl ?_ | refine callX_new (w2) rfl (by decide) ?_ | refine callY_new (w2) rfl ?_ | refine callX_new (w3) rfl (by decide) ?_ | refine callY_new (w3) rfl ?_ | refine callX_new (w4) rfl (by decide) ?_ | refine callY_new (w4) rfl ?_ | refine callX_shared (p1) rfl (by decide) ?_ | refine callY_shared (p1) rfl ?_ | refine callX_shared (p2) rfl (by decide) ?_ | refine callY_shared (p2) rfl ?_ | refine hE _ _ ret_ne ?_ | refine hE _ _ exit_ne ?_) <;> try simp (disch := first | omega | decide +kernel) only [D.ints, hes, go_sem, Nat.reduceEqDiff, Nat.reduceLT, Nat.reduceAdd, Nat.reduceMul, Nat.reduceSub, ↓reduceIte, reduceCtorEq, Nat.reduceLeDiff, Nat.reduceSubDiff, Nat.reduceBEq]) | (refine hN _ ?_ ?_ Wk.kk) | (with_reducible refine And.intro ?_ ?_) | (with_reducible omega) | (exact ok_ints) | (exact cells_ints) | (exact no_mem) | (with_reducible exact plain_ints) | (refine le_maxLen ?_; omega) | (refine List.forall_mem_cons.2 ⟨?_, ?_⟩) | (simp only [go_sem, Nat.reduceAdd, Nat.reduceLT, List.mem_cons, List.not_mem_nil, forall_eq]; done)))
    all_goals (first | omega | exact ret_s2 [6] rfl rfl | (exfalso; simp_all; omega) | trace_state)
end
end Abs.Y
