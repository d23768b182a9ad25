/- What functions of this program compute, as contracts over plain data, with what the proofs need of them. No condition. -/
import Derived.Test.YticigmfmodhfdaaT2
set_option linter.all false
namespace Abs.Y
open Go Go.Proofs Abs
set_option maxRecDepth 100000

/-! ### What a step should be -/
def c01 (cs : List (List Int)) (s : PSt) : Prop := s.ru = 1 ∧ (0 ≤ s.l ∧ s.l ≤ (cs.length : Int) - 1) ∧ s.r = 0 ∧ s.n = 0
def c02 (u : Int) (s : PSt) : Prop := s.ru = 2 ∧ (1 ≤ s.l ∧ s.l ≤ u) ∧ s.r = 0 ∧ s.n = 0
def c03 (u : Int) (s : PSt) : Prop := s.ru = 3 ∧ (1 ≤ s.l ∧ s.l ≤ u) ∧ s.r = 0 ∧ s.n = 0
instance (cs) (s : PSt) : Decidable (c01 cs s) := by unfold c01; infer_instance
instance (u) (s : PSt) : Decidable (c02 u s) := by unfold c02; infer_instance
instance (u) (s : PSt) : Decidable (c03 u s) := by unfold c03; infer_instance
/-- What step k should be, the planes of its premises being q1 and q2 (if they are there). -/
def dueQ (u : Int) (cs : List (List Int)) (s : PSt) (b1 : Bool) (q1 : Pl) (b2 : Bool) (q2 : Pl) : Option Pl :=
  if c01 cs s then some (planI u (cs.getD s.l.toNat []))
  else if c02 u s then some (sgl u s.l 1 0)
  else if c03 u s then some (sgl u s.l (-1) (-1))
  else if s.ru = 4 ∧ b1 = true ∧ b2 = true ∧ s.n = 0 then some (addP q1 q2)
  else if s.ru = 5 ∧ b1 = true ∧ s.r = 0 ∧ (1 ≤ s.n ∧ s.n ≤ 1000) then some (zipP (fun a _ => s.n * a) q1 q1)
  else if s.ru = 6 ∧ b1 = true ∧ s.r = 0 ∧ (2 ≤ s.n ∧ s.n ≤ 1000) ∧ oddK s.n q1 = false then some (halfK s.n q1)
  else none
def qOf (u : Int) (st : List PSt) (k : Nat) (i : Int) : Pl := if befP u st k i then (st.getD i.toNat PSt.z).q else ⟨[], 0⟩
def dueP (u : Int) (cs : List (List Int)) (st : List PSt) (k : Nat) : Option Pl :=
  dueQ u cs (st.getD k PSt.z) (befP u st k (st.getD k PSt.z).l) (qOf u st k (st.getD k PSt.z).l) (befP u st k (st.getD k PSt.z).r) (qOf u st k (st.getD k PSt.z).r)
def optP (o : Option Pl) : Pl := match o with | some q => q | none => ⟨[], 0⟩
theorem qOf_bd {u : Int} {st : List PSt} {k : Nat} {i : Int} (h : befP u st k i = true) : Bd 10000 (qOf u st k i) ∧ ((qOf u st k i).co.length : Int) = u := by
  unfold qOf
  rw [if_pos h]
  simp only [befP, Bool.and_eq_true] at h
  exact okPl_bd h.2
def corrP (u : Int) (cs : List (List Int)) (st : List PSt) (k : Nat) : Bool := okPl u (st.getD k PSt.z).q && decide (dueP u cs st k = some (st.getD k PSt.z).q)
end Abs.Y

namespace Abs.Y
open Go Go.Proofs Abs
set_option maxRecDepth 100000

set_option maxHeartbeats 16000000 in
theorem planeDue_ok (u : Int) (cs : List (List Int)) (st : List PSt) (k : Nat) (hu : okVars u = true) (hk : k < st.length) (hl : st.length ≤ 1048576) (hx : ∀ j, (st.getD j PSt.z).q.co.length ≤ 1048576)
    (hcl : cs.length ≤ 1048576) (hcs : ∀ c ∈ cs, okClause u c = true) (hcx : ∀ c ∈ cs, c.length ≤ 1048576) :
    Ctr Try.prog 267 [.agg [.int .i64 u, .slice (cs.map D.ints)], .slice (st.map D.pst), .int .i64 k] true (.tup [.d (D.pl (optP (dueP u cs st k))), .d (.bool (dueP u cs st k).isSome)]) [] := by
  have huv := okVars_iff.1 hu
  have p1 := planeBefore_ok u cs st k (st.getD k PSt.z).l hu hk hl hx
  have p2 := planeBefore_ok u cs st k (st.getD k PSt.z).r hu hk hl hx
  have hb1 := qOf_bd (u := u) (st := st) (k := k) (i := (st.getD k PSt.z).l)
  have hb2 := qOf_bd (u := u) (st := st) (k := k) (i := (st.getD k PSt.z).r)
  have hes : el (st.map D.pst) k = D.pst (st.getD k PSt.z) := el_pst hk
  change Ctr _ _ _ _ (.tup [.d (D.pl (qOf u st k (st.getD k PSt.z).l)), _]) _ at p1
  change Ctr _ _ _ _ (.tup [.d (D.pl (qOf u st k (st.getD k PSt.z).r)), _]) _ at p2
  unfold dueP
  generalize qOf u st k (st.getD k PSt.z).l = q1 at *
  generalize qOf u st k (st.getD k PSt.z).r = q2 at *
  generalize befP u st k (st.getD k PSt.z).l = b1 at *
  generalize befP u st k (st.getD k PSt.z).r = b2 at *
  generalize st.getD k PSt.z = s at *
  have w1 := within_ok s.l 0 ((cs.length : Int) - 1)
  have w2 := isVar_ok u s.l
  have w3 := within_ok s.n 1 1000
  have w4 := within_ok s.n 2 1000
  have hlq1 : ∀ h : b1 = true, q1.co.length ≤ 4294967296 := fun h => by have := (hb1 h).2; omega
  by_cases hc1 : c01 cs s
  · have e : dueQ u cs s b1 q1 b2 q2 = some (planI u (cs.getD s.l.toNat [])) := by unfold dueQ; rw [if_pos hc1]
    obtain ⟨h1, ⟨hl0, hl1⟩, hr, hn⟩ := hc1
    rw [e]
    rw [decide_eq_true hl0, decide_eq_true hl1] at w1
    have hm : cs.getD s.l.toNat [] ∈ cs := getD_mem (by omega)
    have hec : el (cs.map D.ints) s.l.toNat = D.ints (cs.getD s.l.toNat []) := el_map (f := D.ints) [] (by omega)
    have v1 := planeOf_ok u (cs.getD s.l.toNat []) (by have := hcx _ hm; omega) (lits_ok (hcs _ hm))
    generalize cs.getD s.l.toNat [] = c at *
    refine Ctr.of (n := 182) (rs := [.cell 6 87, .tmp 7]) Try.func267 rfl rfl Try.ntmps267 rfl rfl (by kernel_rfl) Try.checked.mixed ?_
    simp (disch := first | omega | decide +kernel) only [hes, D.ints, go_sem, Nat.reduceEqDiff, Nat.reduceLT, Nat.reduceAdd, Nat.reduceMul, Nat.reduceSub, ↓reduceIte, reduceCtorEq, Nat.reduceLeDiff, Nat.reduceSubDiff, Nat.reduceBEq]
    (repeat' (first | (refine gsel_split (fun h => ?_) (fun h => ?_) <;> (have h' := h) <;> (try simp only [decide_eq_true_eq, decide_eq_false_iff_not, Bool.not_eq_true', Bool.not_eq_false', bne_iff_ne, ne_eq, beq_iff_eq, bne_eq_false_iff_eq, beq_eq_false_iff_ne, Int.ofNat_lt, Int.ofNat_le, Int.not_lt, Int.not_le, Decidable.not_not, Bool.and_eq_true, Bool.or_eq_true, Bool.or_eq_false_iff, gt_iff_lt, ge_iff_le] at h') <;> first | (exfalso; omega) | (simp (disch := first | omega | decide +kernel) only [h, D.ints, hes, hec, go_sem, Nat.reduceEqDiff, Nat.reduceLT, Nat.reduceAdd, Nat.reduceMul, Nat.reduceSub, ↓reduceIte, reduceCtorEq, Nat.reduceLeDiff, Nat.reduceSubDiff, Nat.reduceBEq] <;> clear h)) | ((first | refine callX_new (w1) rfl (by decide) ?_ | refine callY_new (w1) rfl ?_ | refine callX_shared (p1) rfl (by decide) ?_ | refine callY_shared (p1) rfl ?_ | refine callX_shared (p2) rfl (by decide) ?_ | refine callY_shared (p2) rfl ?_ | refine callX_shared (v1) rfl (by decide) ?_ | refine callY_shared (v1) rfl ?_ | refine hE _ _ ret_ne ?_ | refine hE _ _ exit_ne ?_) <;> try simp (disch := first | omega | decide +kernel) only [D.ints, hes, hec, go_sem, Nat.reduceEqDiff, Nat.reduceLT, Nat.reduceAdd, Nat.reduceMul, Nat.reduceSub, ↓reduceIte, reduceCtorEq, Nat.reduceLeDiff, Nat.reduceSubDiff, Nat.reduceBEq]) | (refine hN _ ?_ ?_ Wk.kk) | (with_reducible refine And.intro ?_ ?_) | (with_reducible omega) | (exact ok_ints) | (exact cells_ints) | (exact no_mem) | (with_reducible exact plain_ints) | (refine le_maxLen ?_; omega) | (refine List.forall_mem_cons.2 ⟨?_, ?_⟩) | (simp only [go_sem, Nat.reduceAdd, Nat.reduceLT, List.mem_cons, List.not_mem_nil, forall_eq]; done)))
    exact ret_scbd [] rfl rfl rfl (by simp only [go_sem]) (by simp only [go_sem, List.length_cons, List.length_nil]) rfl (by simp only [go_sem])
  by_cases hc2 : c02 u s
  · have e : dueQ u cs s b1 q1 b2 q2 = some (sgl u s.l 1 0) := by unfold dueQ; rw [if_neg hc1, if_pos hc2]
    obtain ⟨h1, ⟨hl0, hl1⟩, hr, hn⟩ := hc2
    rw [e]
    rw [decide_eq_true hl0, decide_eq_true hl1] at w2
    have v1 := varPlane_ok u s.l 1 0 huv ⟨hl0, hl1⟩
    refine Ctr.of (n := 182) (rs := [.cell 6 87, .tmp 7]) Try.func267 rfl rfl Try.ntmps267 rfl rfl (by kernel_rfl) Try.checked.mixed ?_
    simp (disch := first | omega | decide +kernel) only [hes, D.ints, go_sem, Nat.reduceEqDiff, Nat.reduceLT, Nat.reduceAdd, Nat.reduceMul, Nat.reduceSub, ↓reduceIte, reduceCtorEq, Nat.reduceLeDiff, Nat.reduceSubDiff, Nat.reduceBEq]
    (repeat' (first | (refine gsel_split (fun h => ?_) (fun h => ?_) <;> (have h' := h) <;> (try simp only [decide_eq_true_eq, decide_eq_false_iff_not, Bool.not_eq_true', Bool.not_eq_false', bne_iff_ne, ne_eq, beq_iff_eq, bne_eq_false_iff_eq, beq_eq_false_iff_ne, Int.ofNat_lt, Int.ofNat_le, Int.not_lt, Int.not_le, Decidable.not_not, Bool.and_eq_true, Bool.or_eq_true, Bool.or_eq_false_iff, gt_iff_lt, ge_iff_le] at h') <;> first | (exfalso; omega) | (simp (disch := first | omega | decide +kernel) only [h, D.ints, hes, go_sem, Nat.reduceEqDiff, Nat.reduceLT, Nat.reduceAdd, Nat.reduceMul, Nat.reduceSub, ↓reduceIte, reduceCtorEq, Nat.reduceLeDiff, Nat.reduceSubDiff, Nat.reduceBEq] <;> clear h)) | ((first | refine callX_new (w2) rfl (by decide) ?_ | refine callY_new (w2) rfl ?_ | refine callX_shared (p1) rfl (by decide) ?_ | refine callY_shared (p1) rfl ?_ | refine callX_shared (p2) rfl (by decide) ?_ | refine callY_shared (p2) rfl ?_ | refine callX_shared (v1) rfl (by decide) ?_ | refine callY_shared (v1) rfl ?_ | refine hE _ _ ret_ne ?_ | refine hE _ _ exit_ne ?_) <;> try simp (disch := first | omega | decide +kernel) only [D.ints, hes, go_sem, Nat.reduceEqDiff, Nat.reduceLT, Nat.reduceAdd, Nat.reduceMul, Nat.reduceSub, ↓reduceIte, reduceCtorEq, Nat.reduceLeDiff, Nat.reduceSubDiff, Nat.reduceBEq]) | (refine hN _ ?_ ?_ Wk.kk) | (with_reducible refine And.intro ?_ ?_) | (with_reducible omega) | (exact ok_ints) | (exact cells_ints) | (exact no_mem) | (with_reducible exact plain_ints) | (refine le_maxLen ?_; omega) | (refine List.forall_mem_cons.2 ⟨?_, ?_⟩) | (simp only [go_sem, Nat.reduceAdd, Nat.reduceLT, List.mem_cons, List.not_mem_nil, forall_eq]; done)))
    exact ret_scbd [] rfl rfl rfl (by simp only [go_sem]) (by simp only [go_sem, List.length_cons, List.length_nil]) rfl (by simp only [go_sem])
  by_cases hc3 : c03 u s
  · have e : dueQ u cs s b1 q1 b2 q2 = some (sgl u s.l (-1) (-1)) := by unfold dueQ; rw [if_neg hc1, if_neg hc2, if_pos hc3]
    obtain ⟨h1, ⟨hl0, hl1⟩, hr, hn⟩ := hc3
    rw [e]
    rw [decide_eq_true hl0, decide_eq_true hl1] at w2
    have v1 := varPlane_ok u s.l (-1) (-1) huv ⟨hl0, hl1⟩
    refine Ctr.of (n := 182) (rs := [.cell 6 87, .tmp 7]) Try.func267 rfl rfl Try.ntmps267 rfl rfl (by kernel_rfl) Try.checked.mixed ?_
    simp (disch := first | omega | decide +kernel) only [hes, D.ints, go_sem, Nat.reduceEqDiff, Nat.reduceLT, Nat.reduceAdd, Nat.reduceMul, Nat.reduceSub, ↓reduceIte, reduceCtorEq, Nat.reduceLeDiff, Nat.reduceSubDiff, Nat.reduceBEq]
    (repeat' (first | (refine gsel_split (fun h => ?_) (fun h => ?_) <;> (have h' := h) <;> (try simp only [decide_eq_true_eq, decide_eq_false_iff_not, Bool.not_eq_true', Bool.not_eq_false', bne_iff_ne, ne_eq, beq_iff_eq, bne_eq_false_iff_eq, beq_eq_false_iff_ne, Int.ofNat_lt, Int.ofNat_le, Int.not_lt, Int.not_le, Decidable.not_not, Bool.and_eq_true, Bool.or_eq_true, Bool.or_eq_false_iff, gt_iff_lt, ge_iff_le] at h') <;> first | (exfalso; omega) | (simp (disch := first | omega | decide +kernel) only [h, D.ints, hes, go_sem, Nat.reduceEqDiff, Nat.reduceLT, Nat.reduceAdd, Nat.reduceMul, Nat.reduceSub, ↓reduceIte, reduceCtorEq, Nat.reduceLeDiff, Nat.reduceSubDiff, Nat.reduceBEq] <;> clear h)) | ((first | refine callX_new (w2) rfl (by decide) ?_ | refine callY_new (w2) rfl ?_ | refine callX_shared (p1) rfl (by decide) ?_ | refine callY_shared (p1) rfl ?_ | refine callX_shared (p2) rfl (by decide) ?_ | refine callY_shared (p2) rfl ?_ | refine callX_shared (v1) rfl (by decide) ?_ | refine callY_shared (v1) rfl ?_ | refine hE _ _ ret_ne ?_ | refine hE _ _ exit_ne ?_) <;> try simp (disch := first | omega | decide +kernel) only [D.ints, hes, go_sem, Nat.reduceEqDiff, Nat.reduceLT, Nat.reduceAdd, Nat.reduceMul, Nat.reduceSub, ↓reduceIte, reduceCtorEq, Nat.reduceLeDiff, Nat.reduceSubDiff, Nat.reduceBEq]) | (refine hN _ ?_ ?_ Wk.kk) | (with_reducible refine And.intro ?_ ?_) | (with_reducible omega) | (exact ok_ints) | (exact cells_ints) | (exact no_mem) | (with_reducible exact plain_ints) | (refine le_maxLen ?_; omega) | (refine List.forall_mem_cons.2 ⟨?_, ?_⟩) | (simp only [go_sem, Nat.reduceAdd, Nat.reduceLT, List.mem_cons, List.not_mem_nil, forall_eq]; done)))
    exact ret_scbd [] rfl rfl rfl (by simp only [go_sem]) (by simp only [go_sem, List.length_cons, List.length_nil]) rfl (by simp only [go_sem])
  by_cases hc4 : s.ru = 4 ∧ b1 = true ∧ b2 = true ∧ s.n = 0
  · have e : dueQ u cs s b1 q1 b2 q2 = some (addP q1 q2) := by unfold dueQ; rw [if_neg hc1, if_neg hc2, if_neg hc3, if_pos hc4]
    obtain ⟨h1, rfl, rfl, hn⟩ := hc4
    rw [e]
    have v1 := addPlanes_ok (hlq1 rfl) (by have := (hb1 rfl).2; have := (hb2 rfl).2; omega) (hb1 rfl).1 (hb2 rfl).1 (by decide) (by decide)
    refine Ctr.of (n := 182) (rs := [.cell 6 87, .tmp 7]) Try.func267 rfl rfl Try.ntmps267 rfl rfl (by kernel_rfl) Try.checked.mixed ?_
    simp (disch := first | omega | decide +kernel) only [hes, D.ints, go_sem, Nat.reduceEqDiff, Nat.reduceLT, Nat.reduceAdd, Nat.reduceMul, Nat.reduceSub, ↓reduceIte, reduceCtorEq, Nat.reduceLeDiff, Nat.reduceSubDiff, Nat.reduceBEq]
    (repeat' (first | (refine gsel_split (fun h => ?_) (fun h => ?_) <;> (have h' := h) <;> (try simp only [decide_eq_true_eq, decide_eq_false_iff_not, Bool.not_eq_true', Bool.not_eq_false', bne_iff_ne, ne_eq, beq_iff_eq, bne_eq_false_iff_eq, beq_eq_false_iff_ne, Int.ofNat_lt, Int.ofNat_le, Int.not_lt, Int.not_le, Decidable.not_not, Bool.and_eq_true, Bool.or_eq_true, Bool.or_eq_false_iff, gt_iff_lt, ge_iff_le] at h') <;> first | (exfalso; omega) | (simp (disch := first | omega | decide +kernel) only [h, D.ints, hes, go_sem, Nat.reduceEqDiff, Nat.reduceLT, Nat.reduceAdd, Nat.reduceMul, Nat.reduceSub, ↓reduceIte, reduceCtorEq, Nat.reduceLeDiff, Nat.reduceSubDiff, Nat.reduceBEq] <;> clear h)) | ((first | refine callX_shared (p1) rfl (by decide) ?_ | refine callY_shared (p1) rfl ?_ | refine callX_shared (p2) rfl (by decide) ?_ | refine callY_shared (p2) rfl ?_ | refine callX_shared (v1) rfl (by decide) ?_ | refine callY_shared (v1) rfl ?_ | refine hE _ _ ret_ne ?_ | refine hE _ _ exit_ne ?_) <;> try simp (disch := first | omega | decide +kernel) only [D.ints, hes, go_sem, Nat.reduceEqDiff, Nat.reduceLT, Nat.reduceAdd, Nat.reduceMul, Nat.reduceSub, ↓reduceIte, reduceCtorEq, Nat.reduceLeDiff, Nat.reduceSubDiff, Nat.reduceBEq]) | (refine hN _ ?_ ?_ Wk.kk) | (with_reducible refine And.intro ?_ ?_) | (with_reducible omega) | (exact ok_ints) | (exact cells_ints) | (exact no_mem) | (with_reducible exact plain_ints) | (refine le_maxLen ?_; omega) | (refine List.forall_mem_cons.2 ⟨?_, ?_⟩) | (simp only [go_sem, Nat.reduceAdd, Nat.reduceLT, List.mem_cons, List.not_mem_nil, forall_eq]; done)))
    exact ret_scbd [] rfl rfl rfl (by simp only [go_sem]) (by simp only [go_sem, List.length_cons, List.length_nil]) rfl (by simp only [go_sem])
  by_cases hc5 : s.ru = 5 ∧ b1 = true ∧ s.r = 0 ∧ (1 ≤ s.n ∧ s.n ≤ 1000)
  · have e : dueQ u cs s b1 q1 b2 q2 = some (zipP (fun a _ => s.n * a) q1 q1) := by unfold dueQ; rw [if_neg hc1, if_neg hc2, if_neg hc3, if_neg hc4, if_pos hc5]
    obtain ⟨h1, rfl, hr, hn0, hn1⟩ := hc5
    rw [e]
    rw [decide_eq_true hn0, decide_eq_true hn1] at w3
    have v1 := scalePlane_ok (k := s.n) ⟨hn0, hn1⟩ (hlq1 rfl) (hb1 rfl).1 (by decide) (by decide)
    refine Ctr.of (n := 182) (rs := [.cell 6 87, .tmp 7]) Try.func267 rfl rfl Try.ntmps267 rfl rfl (by kernel_rfl) Try.checked.mixed ?_
    simp (disch := first | omega | decide +kernel) only [hes, D.ints, go_sem, Nat.reduceEqDiff, Nat.reduceLT, Nat.reduceAdd, Nat.reduceMul, Nat.reduceSub, ↓reduceIte, reduceCtorEq, Nat.reduceLeDiff, Nat.reduceSubDiff, Nat.reduceBEq]
    (repeat' (first | (refine gsel_split (fun h => ?_) (fun h => ?_) <;> (have h' := h) <;> (try simp only [decide_eq_true_eq, decide_eq_false_iff_not, Bool.not_eq_true', Bool.not_eq_false', bne_iff_ne, ne_eq, beq_iff_eq, bne_eq_false_iff_eq, beq_eq_false_iff_ne, Int.ofNat_lt, Int.ofNat_le, Int.not_lt, Int.not_le, Decidable.not_not, Bool.and_eq_true, Bool.or_eq_true, Bool.or_eq_false_iff, gt_iff_lt, ge_iff_le] at h') <;> first | (exfalso; omega) | (simp (disch := first | omega | decide +kernel) only [h, D.ints, hes, go_sem, Nat.reduceEqDiff, Nat.reduceLT, Nat.reduceAdd, Nat.reduceMul, Nat.reduceSub, ↓reduceIte, reduceCtorEq, Nat.reduceLeDiff, Nat.reduceSubDiff, Nat.reduceBEq] <;> clear h)) | ((first | refine callX_new (w3) rfl (by decide) ?_ | refine callY_new (w3) rfl ?_ | refine callX_shared (p1) rfl (by decide) ?_ | refine callY_shared (p1) rfl ?_ | refine callX_shared (p2) rfl (by decide) ?_ | refine callY_shared (p2) rfl ?_ | refine callX_shared (v1) rfl (by decide) ?_ | refine callY_shared (v1) rfl ?_ | refine hE _ _ ret_ne ?_ | refine hE _ _ exit_ne ?_) <;> try simp (disch := first | omega | decide +kernel) only [D.ints, hes, go_sem, Nat.reduceEqDiff, Nat.reduceLT, Nat.reduceAdd, Nat.reduceMul, Nat.reduceSub, ↓reduceIte, reduceCtorEq, Nat.reduceLeDiff, Nat.reduceSubDiff, Nat.reduceBEq]) | (refine hN _ ?_ ?_ Wk.kk) | (with_reducible refine And.intro ?_ ?_) | (with_reducible omega) | (exact ok_ints) | (exact cells_ints) | (exact no_mem) | (with_reducible exact plain_ints) | (refine le_maxLen ?_; omega) | (refine List.forall_mem_cons.2 ⟨?_, ?_⟩) | (simp only [go_sem, Nat.reduceAdd, Nat.reduceLT, List.mem_cons, List.not_mem_nil, forall_eq]; done)))
    exact ret_scbd [] rfl rfl rfl (by simp only [go_sem]) (by simp only [go_sem, List.length_cons, List.length_nil]) rfl (by simp only [go_sem])
  by_cases hc6 : s.ru = 6 ∧ b1 = true ∧ s.r = 0 ∧ (2 ≤ s.n ∧ s.n ≤ 1000)
  · have e : dueQ u cs s b1 q1 b2 q2 = if oddK s.n q1 = false then some (halfK s.n q1) else none := by
      unfold dueQ; rw [if_neg hc1, if_neg hc2, if_neg hc3, if_neg hc4, if_neg hc5]
      obtain ⟨h1, h2, h3, h4⟩ := hc6
      by_cases ho : oddK s.n q1 = false
      · rw [if_pos ⟨h1, h2, h3, h4, ho⟩, if_pos ho]
      · rw [if_neg (fun h => ho h.2.2.2.2), if_neg ho]
    obtain ⟨h1, rfl, hr, hn0, hn1⟩ := hc6
    rw [e]
    rw [decide_eq_true hn0, decide_eq_true hn1] at w4
    cases ho : oddK s.n q1 with
    | false =>
      rw [if_pos rfl]
      have v1 := dividePlaneK_ok (k := s.n) ⟨by omega, hn1⟩ (hlq1 rfl) (hb1 rfl).1 (by decide) ho
      refine Ctr.of (n := 182) (rs := [.cell 6 87, .tmp 7]) Try.func267 rfl rfl Try.ntmps267 rfl rfl (by kernel_rfl) Try.checked.mixed ?_
      simp (disch := first | omega | decide +kernel) only [hes, D.ints, go_sem, Nat.reduceEqDiff, Nat.reduceLT, Nat.reduceAdd, Nat.reduceMul, Nat.reduceSub, ↓reduceIte, reduceCtorEq, Nat.reduceLeDiff, Nat.reduceSubDiff, Nat.reduceBEq]
      (repeat' (first | (refine gsel_split (fun h => ?_) (fun h => ?_) <;> (have h' := h) <;> (try simp only [decide_eq_true_eq, decide_eq_false_iff_not, Bool.not_eq_true', Bool.not_eq_false', bne_iff_ne, ne_eq, beq_iff_eq, bne_eq_false_iff_eq, beq_eq_false_iff_ne, Int.ofNat_lt, Int.ofNat_le, Int.not_lt, Int.not_le, Decidable.not_not, Bool.and_eq_true, Bool.or_eq_true, Bool.or_eq_false_iff, gt_iff_lt, ge_iff_le] at h') <;> first | (exfalso; omega) | (simp (disch := first | omega | decide +kernel) only [h, D.ints, hes, go_sem, Nat.reduceEqDiff, Nat.reduceLT, Nat.reduceAdd, Nat.reduceMul, Nat.reduceSub, ↓reduceIte, reduceCtorEq, Nat.reduceLeDiff, Nat.reduceSubDiff, Nat.reduceBEq] <;> clear h)) | ((first | refine callX_new (w4) rfl (by decide) ?_ | refine callY_new (w4) rfl ?_ | refine callX_shared (p1) rfl (by decide) ?_ | refine callY_shared (p1) rfl ?_ | refine callX_shared (p2) rfl (by decide) ?_ | refine callY_shared (p2) rfl ?_ | refine callX_shared (v1) rfl (by decide) ?_ | refine callY_shared (v1) rfl ?_ | refine hE _ _ ret_ne ?_ | refine hE _ _ exit_ne ?_) <;> try simp (disch := first | omega | decide +kernel) only [D.ints, hes, go_sem, Nat.reduceEqDiff, Nat.reduceLT, Nat.reduceAdd, Nat.reduceMul, Nat.reduceSub, ↓reduceIte, reduceCtorEq, Nat.reduceLeDiff, Nat.reduceSubDiff, Nat.reduceBEq]) | (refine hN _ ?_ ?_ Wk.kk) | (with_reducible refine And.intro ?_ ?_) | (with_reducible omega) | (exact ok_ints) | (exact cells_ints) | (exact no_mem) | (with_reducible exact plain_ints) | (refine le_maxLen ?_; omega) | (refine List.forall_mem_cons.2 ⟨?_, ?_⟩) | (simp only [go_sem, Nat.reduceAdd, Nat.reduceLT, List.mem_cons, List.not_mem_nil, forall_eq]; done)))
      exact ret_scbd [] rfl rfl rfl (by simp only [go_sem]) (by simp only [go_sem, List.length_cons, List.length_nil]) rfl (by simp only [go_sem])
    | true =>
      rw [if_neg (by decide)]
      have v1 := dividePlaneK_no (k := s.n) ⟨by omega, hn1⟩ (hlq1 rfl) (hb1 rfl).1 (by decide) ho
      refine Ctr.of (n := 182) (rs := [.cell 6 87, .tmp 7]) Try.func267 rfl rfl Try.ntmps267 rfl rfl (by kernel_rfl) Try.checked.mixed ?_
      simp (disch := first | omega | decide +kernel) only [hes, D.ints, go_sem, Nat.reduceEqDiff, Nat.reduceLT, Nat.reduceAdd, Nat.reduceMul, Nat.reduceSub, ↓reduceIte, reduceCtorEq, Nat.reduceLeDiff, Nat.reduceSubDiff, Nat.reduceBEq]
      (repeat' (first | (refine gsel_split (fun h => ?_) (fun h => ?_) <;> (have h' := h) <;> (try simp only [decide_eq_true_eq, decide_eq_false_iff_not, Bool.not_eq_true', Bool.not_eq_false', bne_iff_ne, ne_eq, beq_iff_eq, bne_eq_false_iff_eq, beq_eq_false_iff_ne, Int.ofNat_lt, Int.ofNat_le, Int.not_lt, Int.not_le, Decidable.not_not, Bool.and_eq_true, Bool.or_eq_true, Bool.or_eq_false_iff, gt_iff_lt, ge_iff_le] at h') <;> first | (exfalso; omega) | (simp (disch := first | omega | decide +kernel) only [h, D.ints, hes, go_sem, Nat.reduceEqDiff, Nat.reduceLT, Nat.reduceAdd, Nat.reduceMul, Nat.reduceSub, ↓reduceIte, reduceCtorEq, Nat.reduceLeDiff, Nat.reduceSubDiff, Nat.reduceBEq] <;> clear h)) | ((first | refine callX_new (w4) rfl (by decide) ?_ | refine callY_new (w4) rfl ?_ | refine callX_shared (p1) rfl (by decide) ?_ | refine callY_shared (p1) rfl ?_ | refine callX_shared (p2) rfl (by decide) ?_ | refine callY_shared (p2) rfl ?_ | refine callX_new (v1) rfl (by decide) ?_ | refine callY_new (v1) rfl ?_ | refine hE _ _ ret_ne ?_ | refine hE _ _ exit_ne ?_) <;> try simp (disch := first | omega | decide +kernel) only [D.ints, hes, go_sem, Nat.reduceEqDiff, Nat.reduceLT, Nat.reduceAdd, Nat.reduceMul, Nat.reduceSub, ↓reduceIte, reduceCtorEq, Nat.reduceLeDiff, Nat.reduceSubDiff, Nat.reduceBEq]) | (refine hN _ ?_ ?_ Wk.kk) | (with_reducible refine And.intro ?_ ?_) | (with_reducible omega) | (exact ok_ints) | (exact cells_ints) | (exact no_mem) | (with_reducible exact plain_ints) | (refine le_maxLen ?_; omega) | (refine List.forall_mem_cons.2 ⟨?_, ?_⟩) | (simp only [go_sem, Nat.reduceAdd, Nat.reduceLT, List.mem_cons, List.not_mem_nil, forall_eq]; done)))
      exact ret_scbd [] rfl rfl rfl (by simp only [go_sem]) (by simp only [go_sem, List.length_cons, List.length_nil]) rfl (by simp only [go_sem])
  · have e : dueQ u cs s b1 q1 b2 q2 = none := by
      unfold dueQ; rw [if_neg hc1, if_neg hc2, if_neg hc3, if_neg hc4, if_neg hc5, if_neg fun h => hc6 ⟨h.1, h.2.1, h.2.2.1, h.2.2.2.1⟩]
    rw [e]
    unfold c01 at hc1
    unfold c02 at hc2
    unfold c03 at hc3
    clear hb1 hb2 hlq1 e
    cases b1 <;> cases b2 <;> simp only [true_and, false_and, and_false, not_false_eq_true, Bool.false_eq_true, not_true_eq_false] at hc4 hc5 hc6
    all_goals
      refine Ctr.of (n := 182) (rs := [.cell 6 87, .tmp 7]) Try.func267 rfl rfl Try.ntmps267 rfl rfl (by kernel_rfl) Try.checked.mixed ?_
      simp (disch := first | omega | decide +kernel) only [hes, D.ints, go_sem, Nat.reduceEqDiff, Nat.reduceLT, Nat.reduceAdd, Nat.reduceMul, Nat.reduceSub, ↓reduceIte, reduceCtorEq, Nat.reduceLeDiff, Nat.reduceSubDiff, Nat.reduceBEq]
      (repeat' (first | (refine gsel_split (fun h => ?_) (fun h => ?_) <;> (have h' := h) <;> (try simp only [decide_eq_true_eq, decide_eq_false_iff_not, Bool.not_eq_true', Bool.not_eq_false', bne_iff_ne, ne_eq, beq_iff_eq, bne_eq_false_iff_eq, beq_eq_false_iff_ne, Int.ofNat_lt, Int.ofNat_le, Int.not_lt, Int.not_le, Decidable.not_not, Bool.and_eq_true, Bool.or_eq_true, Bool.or_eq_false_iff, gt_iff_lt, ge_iff_le] at h') <;> first | (exfalso; omega) | (simp (disch := first | omega | decide +kernel) only [h, D.ints, hes, go_sem, Nat.reduceEqDiff, Nat.reduceLT, Nat.reduceAdd, Nat.reduceMul, Nat.reduceSub, ↓reduceIte, reduceCtorEq, Nat.reduceLeDiff, Nat.reduceSubDiff, Nat.reduceBEq] <;> clear h)) | ((first | refine callX_new (w1) rfl (by decide) ?_ | refine callY_new (w1) rfl ?_ | refine callX_new (w2) rfl (by decide) ?_ | refine callY_new (w2) rfl ?_ | refine callX_new (w3) rfl (by decide) ?_ | refine callY_new (w3) rfl ?_ | refine callX_new (w4) rfl (by decide) ?_ | refine callY_new (w4) rfl ?_ | refine callX_shared (p1) rfl (by decide) ?_ | refine callY_shared (p1) rfl ?_ | refine callX_shared (p2) rfl (by decide) ?_ | refine callY_shared (p2) rfl ?_ | refine hE _ _ ret_ne ?_ | refine hE _ _ exit_ne ?_) <;> try simp (disch := first | omega | decide +kernel) only [D.ints, hes, go_sem, Nat.reduceEqDiff, Nat.reduceLT, Nat.reduceAdd, Nat.reduceMul, Nat.reduceSub, ↓reduceIte, reduceCtorEq, Nat.reduceLeDiff, Nat.reduceSubDiff, Nat.reduceBEq]) | (refine hN _ ?_ ?_ Wk.kk) | (with_reducible refine And.intro ?_ ?_) | (with_reducible omega) | (exact ok_ints) | (exact cells_ints) | (exact no_mem) | (with_reducible exact plain_ints) | (refine le_maxLen ?_; omega) | (refine List.forall_mem_cons.2 ⟨?_, ?_⟩) | (simp only [go_sem, Nat.reduceAdd, Nat.reduceLT, List.mem_cons, List.not_mem_nil, forall_eq]; done)))
      all_goals (first | omega | exact ret_scbd [] rfl rfl rfl (by simp only [go_sem]) (by simp only [go_sem, List.length_cons, List.length_nil]) rfl (by simp only [go_sem]) | trace_state)
end Abs.Y
