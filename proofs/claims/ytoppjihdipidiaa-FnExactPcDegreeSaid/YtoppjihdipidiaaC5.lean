/- What functions of this program compute, as contracts over plain data, with what the proofs need of them. No condition. -/
import Derived.Test.YtoppjihdipidiaaC4
set_option linter.all false
namespace Abs.Y
open Go Go.Proofs Abs
set_option maxRecDepth 100000
section
variable {p : Int} {u : Nat} (hp : 1 < p ∧ p ≤ 5) (hu : u ≤ 6)
include hp hu
set_option maxHeartbeats 8000000 in
theorem l20Correct_ok {cs : List (List Int)} {st : List PcS} {k : Nat} (hpr : primeB p u = true) (hok : okCnf u cs = true) (hcl : cs.length ≤ 1048576) (hc : ∀ j, (cs.getD j []).length ≤ 1048576) (hk : k < st.length) (hl : st.length ≤ 1048576) (hx : ∀ j, (st.getD j PcS.z).poly.length ≤ 1048576) :
    Ctr Try.prog 173 [.int .i64 p, .agg [.int .i64 u, .slice (cs.map D.ints)], .slice (st.map D.pc), .int .i64 k] false (.d (.bool (corPc p u cs st k))) [] := by
  have h2 := pow_le6 hu
  have hes := el_pcs (xs := st) (i := k) hk
  have hxk := hx k
  have c0 := l18Good_ok hp hu (a := (st.getD k PcS.z).poly) (by omega) hpr
  have p1 := l20Earlier_ok hp hu (cs := cs) (st.getD k PcS.z).a hpr hk hl hx
  have p2 := l20Earlier_ok hp hu (cs := cs) (st.getD k PcS.z).b hpr hk hl hx
  unfold corPc duePc
  cases hT : isT p (2 ^ u) (st.getD k PcS.z).poly with
  | false =>
    rw [hT] at c0
    rw [Bool.false_and]
    refine Ctr.of (n := 161) (rs := [.tmp 8]) Try.func173 rfl rfl Try.ntmps173 rfl rfl (by kernel_rfl) Try.checked.mixed ?_
    simp (disch := first | omega | decide +kernel) only [D.ints, hes, go_sem, Nat.reduceEqDiff, Nat.reduceLT, Nat.reduceAdd, Nat.reduceMul, Nat.reduceSub, ↓reduceIte, reduceCtorEq, Nat.reduceLeDiff, Nat.reduceSubDiff, Nat.reduceBEq]
    (repeat' (first | (refine gsel_split (fun h => ?_) (fun h => ?_) <;> (have h' := h) <;> (try simp only [decide_eq_true_eq, decide_eq_false_iff_not, Bool.not_eq_true', Bool.not_eq_false', bne_iff_ne, ne_eq, beq_iff_eq, bne_eq_false_iff_eq, beq_eq_false_iff_ne, Int.ofNat_lt, Int.ofNat_le, Int.not_lt, Int.not_le, Decidable.not_not, Bool.and_eq_true, Bool.or_eq_true, Bool.or_eq_false_iff, gt_iff_lt, ge_iff_le] at h') <;> first | (exfalso; omega) | (simp (disch := first | omega | decide +kernel) only [h, D.ints, hes, go_sem, Nat.reduceEqDiff, Nat.reduceLT, Nat.reduceAdd, Nat.reduceMul, Nat.reduceSub, ↓reduceIte, reduceCtorEq, Nat.reduceLeDiff, Nat.reduceSubDiff, Nat.reduceBEq] <;> clear h)) | ((first | refine callX_new (c0) rfl (by decide) ?_ | refine callY_new (c0) rfl ?_ | refine hE _ _ ret_ne ?_ | refine hE _ _ exit_ne ?_) <;> try simp (disch := first | omega | decide +kernel) only [D.ints, hes, go_sem, Nat.reduceEqDiff, Nat.reduceLT, Nat.reduceAdd, Nat.reduceMul, Nat.reduceSub, ↓reduceIte, reduceCtorEq, Nat.reduceLeDiff, Nat.reduceSubDiff, Nat.reduceBEq]) | (refine hN _ ?_ ?_ Wk.kk) | (with_reducible refine And.intro ?_ ?_) | (with_reducible omega) | (exact ok_ints) | (exact cells_ints) | (exact no_mem) | (with_reducible exact plain_ints) | (refine le_maxLen ?_; omega) | (refine List.forall_mem_cons.2 ⟨?_, ?_⟩) | (simp only [go_sem, Nat.reduceAdd, Nat.reduceLT, List.mem_cons, List.not_mem_nil, forall_eq]; done)))
    all_goals (first | omega | trace_state)
  | true =>
  rw [hT] at c0
  rw [Bool.true_and]
  have w1 := l1In_ok (st.getD k PcS.z).a 0 ((cs.length : Int) - 1)
  have w2 := l1In_ok (st.getD k PcS.z).x 0 (p - 1)
  have w3 := l1In_ok (st.getD k PcS.z).y 0 (p - 1)
  have w4 := l1In_ok (st.getD k PcS.z).x 1 u
  have hv1 : pbT p u st k (st.getD k PcS.z).a = true → 0 ≤ (st.getD k PcS.z).a ∧ (st.getD k PcS.z).a < st.length ∧ isT p (2 ^ u) (st.getD (st.getD k PcS.z).a.toNat PcS.z).poly = true := fun h => by
    simp only [pbT, Bool.and_eq_true, decide_eq_true_eq] at h
    exact ⟨by omega, by omega, h.2⟩
  have hv2 : pbT p u st k (st.getD k PcS.z).b = true → 0 ≤ (st.getD k PcS.z).b ∧ (st.getD k PcS.z).b < st.length ∧ isT p (2 ^ u) (st.getD (st.getD k PcS.z).b.toNat PcS.z).poly = true := fun h => by
    simp only [pbT, Bool.and_eq_true, decide_eq_true_eq] at h
    exact ⟨by omega, by omega, h.2⟩
  unfold pbV
  have hq := fun V hV => same_iff (p := p) (n := 2 ^ u) (a := (st.getD k PcS.z).poly) (V := V) hT hV
  have hea := fun h => el_pcs (xs := st) (i := (st.getD k PcS.z).a.toNat) h
  have heb := fun h => el_pcs (xs := st) (i := (st.getD k PcS.z).b.toNat) h
  have hxa := hx (st.getD k PcS.z).a.toNat
  have hxb := hx (st.getD k PcS.z).b.toNat
  generalize pbT p u st k (st.getD k PcS.z).a = b1 at *
  generalize pbT p u st k (st.getD k PcS.z).b = b2 at *
  generalize (st.getD (st.getD k PcS.z).a.toNat PcS.z).poly = A1 at *
  generalize (st.getD (st.getD k PcS.z).b.toNat PcS.z).poly = A2 at *
  generalize dnT (2 ^ u) (st.getD k PcS.z).poly = dk at *
  generalize st.getD k PcS.z = s at *
  by_cases hc1 : s.kind = 1 ∧ (0 ≤ s.a ∧ s.a ≤ (cs.length : Int) - 1) ∧ s.b = 0 ∧ s.x = 0 ∧ s.y = 0
  · have e : dueC p u cs s b1 b2 (dnT (2 ^ u) A1) (dnT (2 ^ u) A2) = some (clauseD p u (cs.getD s.a.toNat [])) := by unfold dueC; rw [if_pos hc1]
    obtain ⟨h1, ⟨hl0, hl1⟩, hb, hxx, hy⟩ := hc1
    rw [e]
    rw [decide_eq_true hl0, decide_eq_true hl1] at w1
    have hci : cs.getD s.a.toNat [] ∈ cs := getD_mem (z := ([] : List Int)) (by omega)
    have g1 := l18Clause_ok hp hu (c := cs.getD s.a.toNat []) (by have := hc s.a.toNat; omega) (cnf_lits hok hci)
    have hC := Vec.clause hp.1 u (cs.getD s.a.toNat [])
    have hlC := Tms.len hC.1 h2
    have hqi := hq _ hC.1
    generalize clauseD p u (cs.getD s.a.toNat []) = C at *
    rw [show decide (some C = some dk) = decide (s.poly = spT C) by rw [decide_eq_decide]; rw [hqi]; simp]
    have g2 := l20Same_ok s.poly (spT C) (by omega) (by omega)
    generalize decide (s.poly = spT C) = t at *
    generalize spT C = C1 at *
    clear hq hqi hea heb hv1 hv2
    refine Ctr.of (n := 161) (rs := [.tmp 8]) Try.func173 rfl rfl Try.ntmps173 rfl rfl (by kernel_rfl) Try.checked.mixed ?_
    simp (disch := first | omega | decide +kernel) only [D.ints, hes, go_sem, Nat.reduceEqDiff, Nat.reduceLT, Nat.reduceAdd, Nat.reduceMul, Nat.reduceSub, ↓reduceIte, reduceCtorEq, Nat.reduceLeDiff, Nat.reduceSubDiff, Nat.reduceBEq]
    (repeat' (first | (refine gsel_split (fun h => ?_) (fun h => ?_) <;> (have h' := h) <;> (try simp only [decide_eq_true_eq, decide_eq_false_iff_not, Bool.not_eq_true', Bool.not_eq_false', bne_iff_ne, ne_eq, beq_iff_eq, bne_eq_false_iff_eq, beq_eq_false_iff_ne, Int.ofNat_lt, Int.ofNat_le, Int.not_lt, Int.not_le, Decidable.not_not, Bool.and_eq_true, Bool.or_eq_true, Bool.or_eq_false_iff, gt_iff_lt, ge_iff_le] at h') <;> first | (exfalso; omega) | (simp (disch := first | omega | decide +kernel) only [h, D.ints, hes, go_sem, Nat.reduceEqDiff, Nat.reduceLT, Nat.reduceAdd, Nat.reduceMul, Nat.reduceSub, ↓reduceIte, reduceCtorEq, Nat.reduceLeDiff, Nat.reduceSubDiff, Nat.reduceBEq] <;> clear h)) | ((first | refine callX_new (c0) rfl (by decide) ?_ | refine callY_new (c0) rfl ?_ | refine callX_new (w1) rfl (by decide) ?_ | refine callY_new (w1) rfl ?_ | refine callX_shared (g1) rfl (by decide) ?_ | refine callY_shared (g1) rfl ?_ | refine callX_new (g2) rfl (by decide) ?_ | refine callY_new (g2) rfl ?_ | refine hE _ _ ret_ne ?_ | refine hE _ _ exit_ne ?_) <;> try simp (disch := first | omega | decide +kernel) only [D.ints, hes, go_sem, Nat.reduceEqDiff, Nat.reduceLT, Nat.reduceAdd, Nat.reduceMul, Nat.reduceSub, ↓reduceIte, reduceCtorEq, Nat.reduceLeDiff, Nat.reduceSubDiff, Nat.reduceBEq]) | (refine hN _ ?_ ?_ Wk.kk) | (with_reducible refine And.intro ?_ ?_) | (with_reducible omega) | (exact ok_ints) | (exact cells_ints) | (exact no_mem) | (with_reducible exact plain_ints) | (refine le_maxLen ?_; omega) | (refine List.forall_mem_cons.2 ⟨?_, ?_⟩) | (simp only [go_sem, Nat.reduceAdd, Nat.reduceLT, List.mem_cons, List.not_mem_nil, forall_eq]; done)))
    all_goals (first | omega | trace_state)
  by_cases hc2 : s.kind = 2 ∧ b1 = true ∧ b2 = true ∧ (0 ≤ s.x ∧ s.x ≤ p - 1) ∧ (0 ≤ s.y ∧ s.y ≤ p - 1)
  · have e : dueC p u cs s b1 b2 (dnT (2 ^ u) A1) (dnT (2 ^ u) A2) = some (addD p s.y (addD p s.x (List.replicate (2 ^ u) 0) (dnT (2 ^ u) A1)) (dnT (2 ^ u) A2)) := by unfold dueC; rw [if_neg hc1, if_pos hc2]
    obtain ⟨h1, rfl, rfl, ⟨hx0, hx1⟩, hy0, hy1⟩ := hc2
    rw [e]
    rw [decide_eq_true hx0, decide_eq_true hx1] at w2
    rw [decide_eq_true hy0, decide_eq_true hy1] at w3
    obtain ⟨ha0, ha1, haT⟩ := hv1 rfl
    obtain ⟨hb0, hb1, hbT⟩ := hv2 rfl
    have hea2 := hea (by omega)
    have heb2 := heb (by omega)
    have g1 := Ctr.data1 (l20Sum_ok hp hu (a := A1) (b := A2) (x := s.x) (y := s.y) (by omega) (by omega) haT hbT (by omega) (by omega))
    have hV := Vec.addD (p := p) (k := s.y) (by omega) (Vec.addD (p := p) (k := s.x) (by omega) (a := List.replicate (2 ^ u) 0) (b := dnT (2 ^ u) A1) (n := 2 ^ u) (by simp) (dnT_len _ _)).1 (dnT_len (2 ^ u) A2)
    have hlC := Tms.len hV.1 h2
    have hqi := hq _ hV.1
    generalize addD p s.y (addD p s.x (List.replicate (2 ^ u) 0) (dnT (2 ^ u) A1)) (dnT (2 ^ u) A2) = C at *
    rw [show decide (some C = some dk) = decide (s.poly = spT C) by rw [decide_eq_decide]; rw [hqi]; simp]
    have g2 := l20Same_ok s.poly (spT C) (by omega) (by omega)
    generalize decide (s.poly = spT C) = t at *
    generalize spT C = C1 at *
    clear hq hqi hea heb hv1 hv2 haT hbT
    refine Ctr.of (n := 161) (rs := [.tmp 8]) Try.func173 rfl rfl Try.ntmps173 rfl rfl (by kernel_rfl) Try.checked.mixed ?_
    simp (disch := first | omega | decide +kernel) only [D.ints, hes, hea2, heb2, go_sem, Nat.reduceEqDiff, Nat.reduceLT, Nat.reduceAdd, Nat.reduceMul, Nat.reduceSub, ↓reduceIte, reduceCtorEq, Nat.reduceLeDiff, Nat.reduceSubDiff, Nat.reduceBEq]
    (repeat' (first | (refine gsel_split (fun h => ?_) (fun h => ?_) <;> (have h' := h) <;> (try simp only [decide_eq_true_eq, decide_eq_false_iff_not, Bool.not_eq_true', Bool.not_eq_false', bne_iff_ne, ne_eq, beq_iff_eq, bne_eq_false_iff_eq, beq_eq_false_iff_ne, Int.ofNat_lt, Int.ofNat_le, Int.not_lt, Int.not_le, Decidable.not_not, Bool.and_eq_true, Bool.or_eq_true, Bool.or_eq_false_iff, gt_iff_lt, ge_iff_le] at h') <;> first | (exfalso; omega) | (simp (disch := first | omega | decide +kernel) only [h, D.ints, hes, hea2, heb2, go_sem, Nat.reduceEqDiff, Nat.reduceLT, Nat.reduceAdd, Nat.reduceMul, Nat.reduceSub, ↓reduceIte, reduceCtorEq, Nat.reduceLeDiff, Nat.reduceSubDiff, Nat.reduceBEq] <;> clear h)) | ((first | refine callX_new (c0) rfl (by decide) ?_ | refine callY_new (c0) rfl ?_ | refine callX_new (w2) rfl (by decide) ?_ | refine callY_new (w2) rfl ?_ | refine callX_new (w3) rfl (by decide) ?_ | refine callY_new (w3) rfl ?_ | refine callX_new (p1) rfl (by decide) ?_ | refine callY_new (p1) rfl ?_ | refine callX_new (p2) rfl (by decide) ?_ | refine callY_new (p2) rfl ?_ | refine callX_shared (g1) rfl (by decide) ?_ | refine callY_shared (g1) rfl ?_ | refine callX_new (g2) rfl (by decide) ?_ | refine callY_new (g2) rfl ?_ | refine hE _ _ ret_ne ?_ | refine hE _ _ exit_ne ?_) <;> try simp (disch := first | omega | decide +kernel) only [D.ints, hes, hea2, heb2, go_sem, Nat.reduceEqDiff, Nat.reduceLT, Nat.reduceAdd, Nat.reduceMul, Nat.reduceSub, ↓reduceIte, reduceCtorEq, Nat.reduceLeDiff, Nat.reduceSubDiff, Nat.reduceBEq]) | (refine hN _ ?_ ?_ Wk.kk) | (with_reducible refine And.intro ?_ ?_) | (with_reducible omega) | (exact ok_ints) | (exact cells_ints) | (exact no_mem) | (with_reducible exact plain_ints) | (refine le_maxLen ?_; omega) | (refine List.forall_mem_cons.2 ⟨?_, ?_⟩) | (simp only [go_sem, Nat.reduceAdd, Nat.reduceLT, List.mem_cons, List.not_mem_nil, forall_eq]; done)))
    all_goals (first | omega | trace_state)
  by_cases hc3 : s.kind = 3 ∧ b1 = true ∧ s.b = 0 ∧ (1 ≤ s.x ∧ s.x ≤ (u : Int)) ∧ s.y = 0
  · have e : dueC p u cs s b1 b2 (dnT (2 ^ u) A1) (dnT (2 ^ u) A2) = some (mulD p (2 ^ u) (dnT (2 ^ u) A1) (litD p u s.x)) := by unfold dueC; rw [if_neg hc1, if_neg hc2, if_pos hc3]
    obtain ⟨h1, rfl, hb, ⟨hx0, hx1⟩, hy⟩ := hc3
    rw [e]
    rw [decide_eq_true hx0, decide_eq_true hx1] at w4
    obtain ⟨ha0, ha1, haT⟩ := hv1 rfl
    have hea2 := hea (by omega)
    have g1 := Ctr.data1 (l20Times_ok hp hu (a := A1) (x := s.x) (by omega) haT ⟨hx0, hx1⟩)
    have hV := Vec.mulD (p := p) (by omega) (2 ^ u) (dnT (2 ^ u) A1) (litD p u s.x)
    have hlC := Tms.len hV.1 h2
    have hqi := hq _ hV.1
    generalize mulD p (2 ^ u) (dnT (2 ^ u) A1) (litD p u s.x) = C at *
    rw [show decide (some C = some dk) = decide (s.poly = spT C) by rw [decide_eq_decide]; rw [hqi]; simp]
    have g2 := l20Same_ok s.poly (spT C) (by omega) (by omega)
    generalize decide (s.poly = spT C) = t at *
    generalize spT C = C1 at *
    clear hq hqi hea heb hv1 hv2 haT
    refine Ctr.of (n := 161) (rs := [.tmp 8]) Try.func173 rfl rfl Try.ntmps173 rfl rfl (by kernel_rfl) Try.checked.mixed ?_
    simp (disch := first | omega | decide +kernel) only [D.ints, hes, hea2, go_sem, Nat.reduceEqDiff, Nat.reduceLT, Nat.reduceAdd, Nat.reduceMul, Nat.reduceSub, ↓reduceIte, reduceCtorEq, Nat.reduceLeDiff, Nat.reduceSubDiff, Nat.reduceBEq]
    (repeat' (first | (refine gsel_split (fun h => ?_) (fun h => ?_) <;> (have h' := h) <;> (try simp only [decide_eq_true_eq, decide_eq_false_iff_not, Bool.not_eq_true', Bool.not_eq_false', bne_iff_ne, ne_eq, beq_iff_eq, bne_eq_false_iff_eq, beq_eq_false_iff_ne, Int.ofNat_lt, Int.ofNat_le, Int.not_lt, Int.not_le, Decidable.not_not, Bool.and_eq_true, Bool.or_eq_true, Bool.or_eq_false_iff, gt_iff_lt, ge_iff_le] at h') <;> first | (exfalso; omega) | (simp (disch := first | omega | decide +kernel) only [h, D.ints, hes, hea2, go_sem, Nat.reduceEqDiff, Nat.reduceLT, Nat.reduceAdd, Nat.reduceMul, Nat.reduceSub, ↓reduceIte, reduceCtorEq, Nat.reduceLeDiff, Nat.reduceSubDiff, Nat.reduceBEq] <;> clear h)) | ((first | refine callX_new (c0) rfl (by decide) ?_ | refine callY_new (c0) rfl ?_ | refine callX_new (w4) rfl (by decide) ?_ | refine callY_new (w4) rfl ?_ | refine callX_new (p1) rfl (by decide) ?_ | refine callY_new (p1) rfl ?_ | refine callX_shared (g1) rfl (by decide) ?_ | refine callY_shared (g1) rfl ?_ | refine callX_new (g2) rfl (by decide) ?_ | refine callY_new (g2) rfl ?_ | refine hE _ _ ret_ne ?_ | refine hE _ _ exit_ne ?_) <;> try simp (disch := first | omega | decide +kernel) only [D.ints, hes, hea2, go_sem, Nat.reduceEqDiff, Nat.reduceLT, Nat.reduceAdd, Nat.reduceMul, Nat.reduceSub, ↓reduceIte, reduceCtorEq, Nat.reduceLeDiff, Nat.reduceSubDiff, Nat.reduceBEq]) | (refine hN _ ?_ ?_ Wk.kk) | (with_reducible refine And.intro ?_ ?_) | (with_reducible omega) | (exact ok_ints) | (exact cells_ints) | (exact no_mem) | (with_reducible exact plain_ints) | (refine le_maxLen ?_; omega) | (refine List.forall_mem_cons.2 ⟨?_, ?_⟩) | (simp only [go_sem, Nat.reduceAdd, Nat.reduceLT, List.mem_cons, List.not_mem_nil, forall_eq]; done)))
    all_goals (first | omega | trace_state)
  have e : dueC p u cs s b1 b2 (dnT (2 ^ u) A1) (dnT (2 ^ u) A2) = none := by unfold dueC; rw [if_neg hc1, if_neg hc2, if_neg hc3]
  rw [e]
  rw [decide_eq_false (by simp)]
  clear e hq hea heb hv1 hv2
  cases b1 <;> cases b2
  all_goals
    simp only [eq_self, true_and, false_and, and_false, not_false_eq_true, Bool.false_eq_true, not_true_eq_false] at hc2 hc3
    refine Ctr.of (n := 161) (rs := [.tmp 8]) Try.func173 rfl rfl Try.ntmps173 rfl rfl (by kernel_rfl) Try.checked.mixed ?_
    simp (disch := first | omega | decide +kernel) only [D.ints, hes, go_sem, Nat.reduceEqDiff, Nat.reduceLT, Nat.reduceAdd, Nat.reduceMul, Nat.reduceSub, ↓reduceIte, reduceCtorEq, Nat.reduceLeDiff, Nat.reduceSubDiff, Nat.reduceBEq]
    (repeat' (first | (refine gsel_split (fun h => ?_) (fun h => ?_) <;> (have h' := h) <;> (try simp only [decide_eq_true_eq, decide_eq_false_iff_not, Bool.not_eq_true', Bool.not_eq_false', bne_iff_ne, ne_eq, beq_iff_eq, bne_eq_false_iff_eq, beq_eq_false_iff_ne, Int.ofNat_lt, Int.ofNat_le, Int.not_lt, Int.not_le, Decidable.not_not, Bool.and_eq_true, Bool.or_eq_true, Bool.or_eq_false_iff, gt_iff_lt, ge_iff_le] at h') <;> first | (exfalso; omega) | (simp (disch := first | omega | decide +kernel) only [h, D.ints, hes, go_sem, Nat.reduceEqDiff, Nat.reduceLT, Nat.reduceAdd, Nat.reduceMul, Nat.reduceSub, ↓reduceIte, reduceCtorEq, Nat.reduceLeDiff, Nat.reduceSubDiff, Nat.reduceBEq] <;> clear h)) | ((first | refine callX_new (c0) rfl (by decide) ?_ | refine callY_new (c0) rfl ?_ | refine callX_new (w1) rfl (by decide) ?_ | refine callY_new (w1) rfl ?_ | refine callX_new (w2) rfl (by decide) ?_ | refine callY_new (w2) rfl ?_ | refine callX_new (w3) rfl (by decide) ?_ | refine callY_new (w3) rfl ?_ | refine callX_new (w4) rfl (by decide) ?_ | refine callY_new (w4) rfl ?_ | refine callX_new (p1) rfl (by decide) ?_ | refine callY_new (p1) rfl ?_ | refine callX_new (p2) rfl (by decide) ?_ | refine callY_new (p2) rfl ?_ | refine hE _ _ ret_ne ?_ | refine hE _ _ exit_ne ?_) <;> try simp (disch := first | omega | decide +kernel) only [D.ints, hes, go_sem, Nat.reduceEqDiff, Nat.reduceLT, Nat.reduceAdd, Nat.reduceMul, Nat.reduceSub, ↓reduceIte, reduceCtorEq, Nat.reduceLeDiff, Nat.reduceSubDiff, Nat.reduceBEq]) | (refine hN _ ?_ ?_ Wk.kk) | (with_reducible refine And.intro ?_ ?_) | (with_reducible omega) | (exact ok_ints) | (exact cells_ints) | (exact no_mem) | (with_reducible exact plain_ints) | (refine le_maxLen ?_; omega) | (refine List.forall_mem_cons.2 ⟨?_, ?_⟩) | (simp only [go_sem, Nat.reduceAdd, Nat.reduceLT, List.mem_cons, List.not_mem_nil, forall_eq]; done)))
    all_goals (first | omega | (exfalso; simp_all; omega) | trace_state)
theorem l20Wrong_ok {cs : List (List Int)} {st : List PcS} (hpr : primeB p u = true) (hok : okCnf u cs = true) (hcl : cs.length ≤ 1048576) (hc : ∀ j, (cs.getD j []).length ≤ 1048576) (hl : st.length ≤ 1048576) (hx : ∀ j, (st.getD j PcS.z).poly.length ≤ 1048576) :
    Ctr Try.prog 125 [.int .i64 p, .agg [.int .i64 u, .slice (cs.map D.ints)], .slice (st.map D.pc)] false (.d (.int .i64 (wrongPc p u cs st))) [] := by
  refine Ctr.of (n := 21) (rs := [.tmp 6]) Try.func125 rfl rfl Try.ntmps125 rfl rfl (by kernel_rfl) Try.checked.mixed ?_
  simp (disch := first | omega | decide +kernel) only [go_sem, Nat.reduceEqDiff, Nat.reduceLT, Nat.reduceAdd, Nat.reduceMul, Nat.reduceSub, ↓reduceIte, reduceCtorEq, Nat.reduceLeDiff, Nat.reduceSubDiff, Nat.reduceBEq]
  (repeat' (first | (refine gsel_split (fun h => ?_) (fun h => ?_) <;> (have h' := h) <;> (try simp only [decide_eq_true_eq, decide_eq_false_iff_not, Bool.not_eq_true', Bool.not_eq_false', bne_iff_ne, ne_eq, beq_iff_eq, bne_eq_false_iff_eq, beq_eq_false_iff_ne, Int.ofNat_lt, Int.ofNat_le, Int.not_lt, Int.not_le, Decidable.not_not, Bool.and_eq_true, Bool.or_eq_true, Bool.or_eq_false_iff, gt_iff_lt, ge_iff_le] at h') <;> simp (disch := first | omega | decide +kernel) only [h, go_sem, Nat.reduceEqDiff, Nat.reduceLT, Nat.reduceAdd, Nat.reduceMul, Nat.reduceSub, ↓reduceIte, reduceCtorEq, Nat.reduceLeDiff, Nat.reduceSubDiff, Nat.reduceBEq] <;> clear h) | ((first | refine hE _ _ ret_ne ?_ | refine hE _ _ exit_ne ?_) <;> try simp (disch := first | omega | decide +kernel) only [go_sem, Nat.reduceEqDiff, Nat.reduceLT, Nat.reduceAdd, Nat.reduceMul, Nat.reduceSub, ↓reduceIte, reduceCtorEq, Nat.reduceLeDiff, Nat.reduceSubDiff, Nat.reduceBEq]) | (refine hN _ ?_ ?_ Wk.kk) | (with_reducible refine And.intro ?_ ?_) | (with_reducible omega) | (exact ok_ints) | (exact cells_ints) | (exact no_mem) | (with_reducible exact plain_ints) | (refine le_maxLen ?_; omega) | (refine List.forall_mem_cons.2 ⟨?_, ?_⟩) | (simp only [go_sem, Nat.reduceAdd, Nat.reduceLT, List.mem_cons, List.not_mem_nil, forall_eq]; done)))
  refine Ok.loopC [20, 19, 18, 17, 16, 15, 14, 13, 12, 11, 10, 9, 8, 7, 6, 5, 3, 1] (fun i => [(7, .d (.int .i64 (i : Nat)))]) st.length (fun i => ∀ j, j < i → (!corPc p u cs st j) = false) (by simp) (Wk.kk) ?_
  intro R i hN hE hi hI
  simp (disch := first | omega | decide +kernel) only [go_sem, Nat.reduceEqDiff, Nat.reduceLT, Nat.reduceAdd, Nat.reduceMul, Nat.reduceSub, ↓reduceIte, reduceCtorEq, Nat.reduceLeDiff, Nat.reduceSubDiff, Nat.reduceBEq]
  (repeat' (first | (refine gsel_split (fun h => ?_) (fun h => ?_) <;> (have h' := h) <;> (try simp only [decide_eq_true_eq, decide_eq_false_iff_not, Bool.not_eq_true', Bool.not_eq_false', bne_iff_ne, ne_eq, beq_iff_eq, bne_eq_false_iff_eq, beq_eq_false_iff_ne, Int.ofNat_lt, Int.ofNat_le, Int.not_lt, Int.not_le, Decidable.not_not, Bool.and_eq_true, Bool.or_eq_true, Bool.or_eq_false_iff, gt_iff_lt, ge_iff_le] at h') <;> simp (disch := first | omega | decide +kernel) only [h, go_sem, Nat.reduceEqDiff, Nat.reduceLT, Nat.reduceAdd, Nat.reduceMul, Nat.reduceSub, ↓reduceIte, reduceCtorEq, Nat.reduceLeDiff, Nat.reduceSubDiff, Nat.reduceBEq] <;> clear h) | ((first | refine callX_new (l20Correct_ok hp hu hpr hok hcl hc (k := i) (by assumption) hl hx) rfl (by decide) ?_ | refine callY_new (l20Correct_ok hp hu hpr hok hcl hc (k := i) (by assumption) hl hx) rfl ?_ | refine hE _ _ ret_ne ?_ | refine hE _ _ exit_ne ?_) <;> try simp (disch := first | omega | decide +kernel) only [go_sem, Nat.reduceEqDiff, Nat.reduceLT, Nat.reduceAdd, Nat.reduceMul, Nat.reduceSub, ↓reduceIte, reduceCtorEq, Nat.reduceLeDiff, Nat.reduceSubDiff, Nat.reduceBEq]) | (refine hN _ ?_ ?_ Wk.kk) | (with_reducible refine And.intro ?_ ?_) | (with_reducible omega) | (exact ok_ints) | (exact cells_ints) | (exact no_mem) | (with_reducible exact plain_ints) | (refine le_maxLen ?_; omega) | (refine List.forall_mem_cons.2 ⟨?_, ?_⟩) | (simp only [go_sem, Nat.reduceAdd, Nat.reduceLT, List.mem_cons, List.not_mem_nil, forall_eq]; done)))
  · rename_i h1
    rw [wrongPc, idxR_some h1 (by simpa using h') hI]
  · exact all_succ hI (by simpa using h')
  · rw [wrongPc, idxR_none fun j hj => hI j (by omega)]
end
theorem l20Good_ok (p v : Int) (cs : List (List Int)) (st : List PcS) (hcl : cs.length ≤ 1048576) (hc : ∀ j, (cs.getD j []).length ≤ 1048576) (hl : st.length ≤ 1048576) (hx : ∀ j, (st.getD j PcS.z).poly.length ≤ 1048576) :
    Ctr Try.prog 58 [.int .i64 p, .agg [.int .i64 v, .slice (cs.map D.ints)], .slice (st.map D.pc)] false (.d (.bool (goodPc p v cs st))) [] := by
  have c1 := l20Asked_ok p v cs (by omega) (fun j => by have := hc j; omega)
  unfold goodPc
  cases h1 : primeB p v && okCnf v cs with
  | false =>
    rw [h1] at c1
    rw [Bool.false_and]
    refine Ctr.of (n := 22) (rs := [.tmp 6]) Try.func58 rfl rfl Try.ntmps58 rfl rfl (by kernel_rfl) Try.checked.mixed ?_
    simp (disch := first | omega | decide +kernel) only [go_sem, Nat.reduceEqDiff, Nat.reduceLT, Nat.reduceAdd, Nat.reduceMul, Nat.reduceSub, ↓reduceIte, reduceCtorEq, Nat.reduceLeDiff, Nat.reduceSubDiff, Nat.reduceBEq]
    (repeat' (first | (refine gsel_split (fun h => ?_) (fun h => ?_) <;> (have h' := h) <;> (try simp only [decide_eq_true_eq, decide_eq_false_iff_not, Bool.not_eq_true', Bool.not_eq_false', bne_iff_ne, ne_eq, beq_iff_eq, bne_eq_false_iff_eq, beq_eq_false_iff_ne, Int.ofNat_lt, Int.ofNat_le, Int.not_lt, Int.not_le, Decidable.not_not, Bool.and_eq_true, Bool.or_eq_true, Bool.or_eq_false_iff, gt_iff_lt, ge_iff_le] at h') <;> first | (exfalso; omega) | (simp (disch := first | omega | decide +kernel) only [h, go_sem, Nat.reduceEqDiff, Nat.reduceLT, Nat.reduceAdd, Nat.reduceMul, Nat.reduceSub, ↓reduceIte, reduceCtorEq, Nat.reduceLeDiff, Nat.reduceSubDiff, Nat.reduceBEq] <;> clear h)) | ((first | refine callX_new (c1) rfl (by decide) ?_ | refine callY_new (c1) rfl ?_ | refine hE _ _ ret_ne ?_ | refine hE _ _ exit_ne ?_) <;> try simp (disch := first | omega | decide +kernel) only [go_sem, Nat.reduceEqDiff, Nat.reduceLT, Nat.reduceAdd, Nat.reduceMul, Nat.reduceSub, ↓reduceIte, reduceCtorEq, Nat.reduceLeDiff, Nat.reduceSubDiff, Nat.reduceBEq]) | (refine hN _ ?_ ?_ Wk.kk) | (with_reducible refine And.intro ?_ ?_) | (with_reducible omega) | (exact ok_ints) | (exact cells_ints) | (exact no_mem) | (with_reducible exact plain_ints) | (refine le_maxLen ?_; omega) | (refine List.forall_mem_cons.2 ⟨?_, ?_⟩) | (simp only [go_sem, Nat.reduceAdd, Nat.reduceLT, List.mem_cons, List.not_mem_nil, forall_eq]; done)))
    all_goals (first | omega | trace_state)
  | true =>
    rw [h1] at c1
    rw [Bool.true_and]
    rw [Bool.and_eq_true] at h1
    obtain ⟨hp, hv⟩ := primeB_of h1.1
    obtain ⟨u, rfl⟩ : ∃ u : Nat, v = u := ⟨v.toNat, by omega⟩
    rw [Int.toNat_natCast]
    have c2 := l20Wrong_ok hp (by omega) h1.1 h1.2 hcl hc hl hx
    generalize wrongPc p u cs st = w at *
    by_cases h3 : st.length ≤ 300
    · rw [decide_eq_true h3, Bool.true_and]
      refine Ctr.of (n := 22) (rs := [.tmp 6]) Try.func58 rfl rfl Try.ntmps58 rfl rfl (by kernel_rfl) Try.checked.mixed ?_
      simp (disch := first | omega | decide +kernel) only [go_sem, Nat.reduceEqDiff, Nat.reduceLT, Nat.reduceAdd, Nat.reduceMul, Nat.reduceSub, ↓reduceIte, reduceCtorEq, Nat.reduceLeDiff, Nat.reduceSubDiff, Nat.reduceBEq]
      (repeat' (first | (refine gsel_split (fun h => ?_) (fun h => ?_) <;> (have h' := h) <;> (try simp only [decide_eq_true_eq, decide_eq_false_iff_not, Bool.not_eq_true', Bool.not_eq_false', bne_iff_ne, ne_eq, beq_iff_eq, bne_eq_false_iff_eq, beq_eq_false_iff_ne, Int.ofNat_lt, Int.ofNat_le, Int.not_lt, Int.not_le, Decidable.not_not, Bool.and_eq_true, Bool.or_eq_true, Bool.or_eq_false_iff, gt_iff_lt, ge_iff_le] at h') <;> first | (exfalso; omega) | (simp (disch := first | omega | decide +kernel) only [h, go_sem, Nat.reduceEqDiff, Nat.reduceLT, Nat.reduceAdd, Nat.reduceMul, Nat.reduceSub, ↓reduceIte, reduceCtorEq, Nat.reduceLeDiff, Nat.reduceSubDiff, Nat.reduceBEq] <;> clear h)) | ((first | refine callX_new (c1) rfl (by decide) ?_ | refine callY_new (c1) rfl ?_ | refine callX_new (c2) rfl (by decide) ?_ | refine callY_new (c2) rfl ?_ | refine hE _ _ ret_ne ?_ | refine hE _ _ exit_ne ?_) <;> try simp (disch := first | omega | decide +kernel) only [go_sem, Nat.reduceEqDiff, Nat.reduceLT, Nat.reduceAdd, Nat.reduceMul, Nat.reduceSub, ↓reduceIte, reduceCtorEq, Nat.reduceLeDiff, Nat.reduceSubDiff, Nat.reduceBEq]) | (refine hN _ ?_ ?_ Wk.kk) | (with_reducible refine And.intro ?_ ?_) | (with_reducible omega) | (exact ok_ints) | (exact cells_ints) | (exact no_mem) | (with_reducible exact plain_ints) | (refine le_maxLen ?_; omega) | (refine List.forall_mem_cons.2 ⟨?_, ?_⟩) | (simp only [go_sem, Nat.reduceAdd, Nat.reduceLT, List.mem_cons, List.not_mem_nil, forall_eq]; done)))
      all_goals (first | omega | trace_state)
    · rw [decide_eq_false h3, Bool.false_and]
      refine Ctr.of (n := 22) (rs := [.tmp 6]) Try.func58 rfl rfl Try.ntmps58 rfl rfl (by kernel_rfl) Try.checked.mixed ?_
      simp (disch := first | omega | decide +kernel) only [go_sem, Nat.reduceEqDiff, Nat.reduceLT, Nat.reduceAdd, Nat.reduceMul, Nat.reduceSub, ↓reduceIte, reduceCtorEq, Nat.reduceLeDiff, Nat.reduceSubDiff, Nat.reduceBEq]
      (repeat' (first | (refine gsel_split (fun h => ?_) (fun h => ?_) <;> (have h' := h) <;> (try simp only [decide_eq_true_eq, decide_eq_false_iff_not, Bool.not_eq_true', Bool.not_eq_false', bne_iff_ne, ne_eq, beq_iff_eq, bne_eq_false_iff_eq, beq_eq_false_iff_ne, Int.ofNat_lt, Int.ofNat_le, Int.not_lt, Int.not_le, Decidable.not_not, Bool.and_eq_true, Bool.or_eq_true, Bool.or_eq_false_iff, gt_iff_lt, ge_iff_le] at h') <;> first | (exfalso; omega) | (simp (disch := first | omega | decide +kernel) only [h, go_sem, Nat.reduceEqDiff, Nat.reduceLT, Nat.reduceAdd, Nat.reduceMul, Nat.reduceSub, ↓reduceIte, reduceCtorEq, Nat.reduceLeDiff, Nat.reduceSubDiff, Nat.reduceBEq] <;> clear h)) | ((first | refine callX_new (c1) rfl (by decide) ?_ | refine callY_new (c1) rfl ?_ | refine callX_new (c2) rfl (by decide) ?_ | refine callY_new (c2) rfl ?_ | refine hE _ _ ret_ne ?_ | refine hE _ _ exit_ne ?_) <;> try simp (disch := first | omega | decide +kernel) only [go_sem, Nat.reduceEqDiff, Nat.reduceLT, Nat.reduceAdd, Nat.reduceMul, Nat.reduceSub, ↓reduceIte, reduceCtorEq, Nat.reduceLeDiff, Nat.reduceSubDiff, Nat.reduceBEq]) | (refine hN _ ?_ ?_ Wk.kk) | (with_reducible refine And.intro ?_ ?_) | (with_reducible omega) | (exact ok_ints) | (exact cells_ints) | (exact no_mem) | (with_reducible exact plain_ints) | (refine le_maxLen ?_; omega) | (refine List.forall_mem_cons.2 ⟨?_, ?_⟩) | (simp only [go_sem, Nat.reduceAdd, Nat.reduceLT, List.mem_cons, List.not_mem_nil, forall_eq]; done)))
      all_goals (first | omega | trace_state)
set_option maxHeartbeats 4000000 in
theorem specPD_ok (p v : Int) (cs : List (List Int)) (st : List PcS) (hcl : cs.length ≤ 1048576) (hc : ∀ j, (cs.getD j []).length ≤ 1048576) (hl : st.length ≤ 1048576) (hx : ∀ j, (st.getD j PcS.z).poly.length ≤ 1048576) :
    Ctr Try.prog 14 [.int .i64 p, .agg [.int .i64 v, .slice (cs.map D.ints)], .slice (st.map D.pc)] false (.tup [.d (.int .i64 (if goodPc p v cs st then degPc v.toNat st st.length else 0)), .d (.bool (goodPc p v cs st))]) [] := by
  have c1 := l20Good_ok p v cs st hcl hc hl hx
  cases hg : goodPc p v cs st with
  | false =>
    rw [hg] at c1
    simp only [Bool.false_eq_true, if_false]
    refine Ctr.of (n := 30) (rs := [.tmp 6, .tmp 7]) Try.func14 rfl rfl Try.ntmps14 rfl rfl (by kernel_rfl) Try.checked.mixed ?_
    simp (disch := first | omega | decide +kernel) only [go_sem, Nat.reduceEqDiff, Nat.reduceLT, Nat.reduceAdd, Nat.reduceMul, Nat.reduceSub, ↓reduceIte, reduceCtorEq, Nat.reduceLeDiff, Nat.reduceSubDiff, Nat.reduceBEq]
    (repeat' (first | (refine gsel_split (fun h => ?_) (fun h => ?_) <;> (have h' := h) <;> (try simp only [decide_eq_true_eq, decide_eq_false_iff_not, Bool.not_eq_true', Bool.not_eq_false', bne_iff_ne, ne_eq, beq_iff_eq, bne_eq_false_iff_eq, beq_eq_false_iff_ne, Int.ofNat_lt, Int.ofNat_le, Int.not_lt, Int.not_le, Decidable.not_not, Bool.and_eq_true, Bool.or_eq_true, Bool.or_eq_false_iff, gt_iff_lt, ge_iff_le] at h') <;> first | (exfalso; omega) | (simp (disch := first | omega | decide +kernel) only [h, go_sem, Nat.reduceEqDiff, Nat.reduceLT, Nat.reduceAdd, Nat.reduceMul, Nat.reduceSub, ↓reduceIte, reduceCtorEq, Nat.reduceLeDiff, Nat.reduceSubDiff, Nat.reduceBEq] <;> clear h)) | ((first | refine callX_new (c1) rfl (by decide) ?_ | refine callY_new (c1) rfl ?_ | refine hE _ _ ret_ne ?_ | refine hE _ _ exit_ne ?_) <;> try simp (disch := first | omega | decide +kernel) only [go_sem, Nat.reduceEqDiff, Nat.reduceLT, Nat.reduceAdd, Nat.reduceMul, Nat.reduceSub, ↓reduceIte, reduceCtorEq, Nat.reduceLeDiff, Nat.reduceSubDiff, Nat.reduceBEq]) | (refine hN _ ?_ ?_ Wk.kk) | (with_reducible refine And.intro ?_ ?_) | (with_reducible omega) | (exact ok_ints) | (exact cells_ints) | (exact no_mem) | (with_reducible exact plain_ints) | (refine le_maxLen ?_; omega) | (refine List.forall_mem_cons.2 ⟨?_, ?_⟩) | (simp only [go_sem, Nat.reduceAdd, Nat.reduceLT, List.mem_cons, List.not_mem_nil, forall_eq]; done)))
    all_goals (first | omega | trace_state)
  | true =>
    rw [hg] at c1
    simp only [if_true]
    have hcor : ∀ j, j < st.length → isT p (2 ^ v.toNat) (st.getD j PcS.z).poly = true := by
      simp only [goodPc, Bool.and_eq_true, decide_eq_true_eq] at hg
      intro j hj
      have := wrongPc_neg hg.2.2 j hj
      rw [corPc, Bool.and_eq_true] at this
      exact this.1
    have hv6 : 2 ^ v.toNat ≤ 64 := by
      simp only [goodPc, Bool.and_eq_true] at hg
      obtain ⟨hp, hv⟩ := primeB_of hg.1.1
      exact pow_le6 (by omega)
    refine Ctr.of (n := 30) (rs := [.tmp 6, .tmp 7]) Try.func14 rfl rfl Try.ntmps14 rfl rfl (by kernel_rfl) Try.checked.mixed ?_
    simp (disch := first | omega | decide +kernel) only [go_sem, Nat.reduceEqDiff, Nat.reduceLT, Nat.reduceAdd, Nat.reduceMul, Nat.reduceSub, ↓reduceIte, reduceCtorEq, Nat.reduceLeDiff, Nat.reduceSubDiff, Nat.reduceBEq]
    (repeat' (first | (refine gsel_split (fun h => ?_) (fun h => ?_) <;> (have h' := h) <;> (try simp only [decide_eq_true_eq, decide_eq_false_iff_not, Bool.not_eq_true', Bool.not_eq_false', bne_iff_ne, ne_eq, beq_iff_eq, bne_eq_false_iff_eq, beq_eq_false_iff_ne, Int.ofNat_lt, Int.ofNat_le, Int.not_lt, Int.not_le, Decidable.not_not, Bool.and_eq_true, Bool.or_eq_true, Bool.or_eq_false_iff, gt_iff_lt, ge_iff_le] at h') <;> first | (exfalso; omega) | (simp (disch := first | omega | decide +kernel) only [h, go_sem, Nat.reduceEqDiff, Nat.reduceLT, Nat.reduceAdd, Nat.reduceMul, Nat.reduceSub, ↓reduceIte, reduceCtorEq, Nat.reduceLeDiff, Nat.reduceSubDiff, Nat.reduceBEq] <;> clear h)) | ((first | refine callX_new (c1) rfl (by decide) ?_ | refine callY_new (c1) rfl ?_ | refine hE _ _ ret_ne ?_ | refine hE _ _ exit_ne ?_) <;> try simp (disch := first | omega | decide +kernel) only [go_sem, Nat.reduceEqDiff, Nat.reduceLT, Nat.reduceAdd, Nat.reduceMul, Nat.reduceSub, ↓reduceIte, reduceCtorEq, Nat.reduceLeDiff, Nat.reduceSubDiff, Nat.reduceBEq]) | (refine hN _ ?_ ?_ Wk.kk) | (with_reducible refine And.intro ?_ ?_) | (with_reducible omega) | (exact ok_ints) | (exact cells_ints) | (exact no_mem) | (with_reducible exact plain_ints) | (refine le_maxLen ?_; omega) | (refine List.forall_mem_cons.2 ⟨?_, ?_⟩) | (simp only [go_sem, Nat.reduceAdd, Nat.reduceLT, List.mem_cons, List.not_mem_nil, forall_eq]; done)))
    refine Ok.loopN [28, 27, 26, 25, 24, 23, 22, 21, 20, 19, 18, 17, 16, 15, 14, 13, 12, 11, 10, 9, 8, 5, 4, 3, 1, 0] (fun i d => [(9, .d (.int .i64 (i : Nat))), (8, .d (.int .i64 d))]) (fun _ _ => []) st.length
      (fun i (d : Int) => d = degPc v.toNat st i) (-1) rfl (Wk.kk) ?_
    rintro R i d hN hE hi hd
    by_cases hlt : i < st.length
    · have hs := degPc_succ v.toNat st i
      rw [← hd] at hs
      have hei := el_pcs (xs := st) hlt
      have hT := hcor i hlt
      have hxi := hx i
      generalize (st.getD i PcS.z).poly = a at *
      have c3 := l18Degree_ok hv6 (a := a) (by omega) (isT_tms hT)
      generalize degT a = t at *
      have c4 := l1Most_ok d t
      simp (disch := first | omega | decide +kernel) only [hei, go_sem, Nat.reduceEqDiff, Nat.reduceLT, Nat.reduceAdd, Nat.reduceMul, Nat.reduceSub, ↓reduceIte, reduceCtorEq, Nat.reduceLeDiff, Nat.reduceSubDiff, Nat.reduceBEq]
      (repeat' (first | (refine gsel_split (fun h => ?_) (fun h => ?_) <;> (have h' := h) <;> (try simp only [decide_eq_true_eq, decide_eq_false_iff_not, Bool.not_eq_true', Bool.not_eq_false', bne_iff_ne, ne_eq, beq_iff_eq, bne_eq_false_iff_eq, beq_eq_false_iff_ne, Int.ofNat_lt, Int.ofNat_le, Int.not_lt, Int.not_le, Decidable.not_not, Bool.and_eq_true, Bool.or_eq_true, Bool.or_eq_false_iff, gt_iff_lt, ge_iff_le] at h') <;> first | (exfalso; omega) | (simp (disch := first | omega | decide +kernel) only [h, hei, go_sem, Nat.reduceEqDiff, Nat.reduceLT, Nat.reduceAdd, Nat.reduceMul, Nat.reduceSub, ↓reduceIte, reduceCtorEq, Nat.reduceLeDiff, Nat.reduceSubDiff, Nat.reduceBEq] <;> clear h)) | ((first | refine callX_new (c3) rfl (by decide) ?_ | refine callY_new (c3) rfl ?_ | refine callX_new (c4) rfl (by decide) ?_ | refine callY_new (c4) rfl ?_ | refine hE _ _ ret_ne ?_ | refine hE _ _ exit_ne ?_) <;> try simp (disch := first | omega | decide +kernel) only [hei, go_sem, Nat.reduceEqDiff, Nat.reduceLT, Nat.reduceAdd, Nat.reduceMul, Nat.reduceSub, ↓reduceIte, reduceCtorEq, Nat.reduceLeDiff, Nat.reduceSubDiff, Nat.reduceBEq]) | (refine hN _ ?_ ?_ Wk.kk) | (with_reducible refine And.intro ?_ ?_) | (with_reducible omega) | (exact ok_ints) | (exact cells_ints) | (exact no_mem) | (with_reducible exact plain_ints) | (refine le_maxLen ?_; omega) | (refine List.forall_mem_cons.2 ⟨?_, ?_⟩) | (simp only [go_sem, Nat.reduceAdd, Nat.reduceLT, List.mem_cons, List.not_mem_nil, forall_eq]; done)))
      all_goals (first | omega | (refine hN (max d t) _ hlt hs.symm (Wk.auto (by simp [extraK, lk, killL, St.kill, wipeO, wipeS, AV.has, AV.hasL, AO.wipe, List.map_set, updSt, insL, dropS, ins, ]) (by simp [extraK, lk, killL, St.kill, wipeO, wipeS, AV.has, AV.hasL, AO.wipe, List.map_set, updSt, insL, dropS, ins, ])); done) | trace_state)
    · obtain rfl : i = st.length := by omega
      rw [← hd] at hE
      simp (disch := first | omega | decide +kernel) only [go_sem, Nat.reduceEqDiff, Nat.reduceLT, Nat.reduceAdd, Nat.reduceMul, Nat.reduceSub, ↓reduceIte, reduceCtorEq, Nat.reduceLeDiff, Nat.reduceSubDiff, Nat.reduceBEq]
      (repeat' (first | (refine gsel_split (fun h => ?_) (fun h => ?_) <;> (have h' := h) <;> (try simp only [decide_eq_true_eq, decide_eq_false_iff_not, Bool.not_eq_true', Bool.not_eq_false', bne_iff_ne, ne_eq, beq_iff_eq, bne_eq_false_iff_eq, beq_eq_false_iff_ne, Int.ofNat_lt, Int.ofNat_le, Int.not_lt, Int.not_le, Decidable.not_not, Bool.and_eq_true, Bool.or_eq_true, Bool.or_eq_false_iff, gt_iff_lt, ge_iff_le] at h') <;> first | (exfalso; omega) | (simp (disch := first | omega | decide +kernel) only [h, go_sem, Nat.reduceEqDiff, Nat.reduceLT, Nat.reduceAdd, Nat.reduceMul, Nat.reduceSub, ↓reduceIte, reduceCtorEq, Nat.reduceLeDiff, Nat.reduceSubDiff, Nat.reduceBEq] <;> clear h)) | ((first | refine hE _ _ ret_ne ?_ | refine hE _ _ exit_ne ?_) <;> try simp (disch := first | omega | decide +kernel) only [go_sem, Nat.reduceEqDiff, Nat.reduceLT, Nat.reduceAdd, Nat.reduceMul, Nat.reduceSub, ↓reduceIte, reduceCtorEq, Nat.reduceLeDiff, Nat.reduceSubDiff, Nat.reduceBEq]) | (refine hN _ ?_ ?_ Wk.kk) | (with_reducible refine And.intro ?_ ?_) | (with_reducible omega) | (exact ok_ints) | (exact cells_ints) | (exact no_mem) | (with_reducible exact plain_ints) | (refine le_maxLen ?_; omega) | (refine List.forall_mem_cons.2 ⟨?_, ?_⟩) | (simp only [go_sem, Nat.reduceAdd, Nat.reduceLT, List.mem_cons, List.not_mem_nil, forall_eq]; done)))
      all_goals (first | omega | trace_state)
end Abs.Y
