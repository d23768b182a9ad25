/- What functions of this program compute, as contracts over plain data, with what the proofs need of them. No condition. -/
import Derived.Test.YtoppjihdipidiaaV5
import Derived.Test.YtoppjihdipidiaaM9a
set_option linter.all false
namespace Abs.Y
open Go Go.Proofs Abs
open Nat (reduceEqDiff reduceLT reduceAdd reduceMul reduceSub reduceLeDiff reduceSubDiff)
set_option maxRecDepth 100000

def primeB (p v : Int) : Bool := ((decide (p = 2) || decide (p = 3)) || decide (p = 5)) && (decide (0 ≤ v) && decide (v ≤ 6))
theorem l18Prime_ok (p v : Int) : Ctr Try.prog 82 [.int .i64 p, .int .i64 v] false (.d (.bool (primeB p v))) [] := by
  have c1 := l1In_ok v 0 6
  unfold primeB
  refine Ctr.of (n := 19) (rs := [.tmp 4]) Try.func82 rfl rfl Try.ntmps82 rfl rfl (by kernel_rfl) Try.checked.mixed ?_
  simp (disch := first | omega | decide +kernel) only [go_sem, reduceEqDiff, reduceLT, reduceAdd, reduceMul, reduceSub, ↓reduceIte, reduceCtorEq, reduceLeDiff, reduceSubDiff, Nat.reduceBEq]
  (repeat' (first | (refine gsel_split (fun h => ?_) (fun h => ?_) <;> (have h' := h) <;> (try simp only [decide_eq_true_eq, decide_eq_false_iff_not, Bool.not_eq_true', Bool.not_eq_false', bne_iff_ne, ne_eq, beq_iff_eq, bne_eq_false_iff_eq, beq_eq_false_iff_ne, Int.ofNat_lt, Int.ofNat_le, Int.not_lt, Int.not_le, Decidable.not_not, Bool.and_eq_true, Bool.or_eq_true, Bool.or_eq_false_iff, gt_iff_lt, ge_iff_le] at h') <;> first | (exfalso; omega) | (simp (disch := first | omega | decide +kernel) only [h, go_sem, reduceEqDiff, reduceLT, reduceAdd, reduceMul, reduceSub, ↓reduceIte, reduceCtorEq, reduceLeDiff, reduceSubDiff, Nat.reduceBEq] <;> clear h)) | ((first | refine callX_new (c1) rfl (by decide) ?_ | refine callY_new (c1) rfl ?_ | refine hE _ _ ret_ne ?_ | refine hE _ _ exit_ne ?_) <;> try simp (disch := first | omega | decide +kernel) only [go_sem, reduceEqDiff, reduceLT, reduceAdd, reduceMul, reduceSub, ↓reduceIte, reduceCtorEq, reduceLeDiff, reduceSubDiff, Nat.reduceBEq]) | (refine hN _ ?_ ?_ Wk.kk) | (with_reducible refine And.intro ?_ ?_) | (with_reducible omega) | (exact ok_ints) | (exact cells_ints) | (exact no_mem) | (with_reducible exact plain_ints) | (refine le_maxLen ?_; omega) | (refine List.forall_mem_cons.2 ⟨?_, ?_⟩) | (simp only [go_sem, Nat.reduceAdd, Nat.reduceLT, List.mem_cons, List.not_mem_nil, forall_eq]; done)))
  all_goals (first | omega | (simp_all [D.plain]; done))
theorem ringOf_ok (p v : Int) : Ctr Try.prog 78 [.int .i64 p, .int .i64 v] false (.tup [.d (.agg [.int .i64 p, .int .i64 v]), .d (.bool (primeB p v))]) [] := by
  have c1 := within_ok v 0 6
  have hb : ((decide (p = 2) || decide (p = 3)) || decide (p = 5)) = decide (p = 2 ∨ p = 3 ∨ p = 5) := by
    by_cases h1 : p = 2 <;> by_cases h2 : p = 3 <;> by_cases h3 : p = 5 <;> simp [h1, h2, h3]
  unfold primeB
  rw [hb]
  by_cases hq : p = 2 ∨ p = 3 ∨ p = 5
  · rw [decide_eq_true hq, Bool.true_and]
    generalize (decide (0 ≤ v) && decide (v ≤ 6)) = b at *
    refine Ctr.of (n := 23) (rs := [.cell 4 95, .tmp 5]) Try.func78 rfl rfl Try.ntmps78 rfl rfl (by kernel_rfl) Try.checked.mixed ?_
    simp (disch := first | omega | decide +kernel) only [go_sem, reduceEqDiff, reduceLT, reduceAdd, reduceMul, reduceSub, ↓reduceIte, reduceCtorEq, reduceLeDiff, reduceSubDiff, Nat.reduceBEq]
    (repeat' (first | (refine gsel_split (fun h => ?_) (fun h => ?_) <;> (have h' := h) <;> (try simp only [decide_eq_true_eq, decide_eq_false_iff_not, Bool.not_eq_true', Bool.not_eq_false', bne_iff_ne, ne_eq, beq_iff_eq, bne_eq_false_iff_eq, beq_eq_false_iff_ne, Int.ofNat_lt, Int.ofNat_le, Int.not_lt, Int.not_le, Decidable.not_not, Bool.and_eq_true, Bool.or_eq_true, Bool.or_eq_false_iff, gt_iff_lt, ge_iff_le] at h') <;> first | (exfalso; omega) | (simp (disch := first | omega | decide +kernel) only [h, go_sem, reduceEqDiff, reduceLT, reduceAdd, reduceMul, reduceSub, ↓reduceIte, reduceCtorEq, reduceLeDiff, reduceSubDiff, Nat.reduceBEq] <;> clear h)) | ((first | refine callX_new (c1) rfl (by decide) ?_ | refine callY_new (c1) rfl ?_ | refine hE _ _ ret_ne ?_ | refine hE _ _ exit_ne ?_) <;> try simp (disch := first | omega | decide +kernel) only [go_sem, reduceEqDiff, reduceLT, reduceAdd, reduceMul, reduceSub, ↓reduceIte, reduceCtorEq, reduceLeDiff, reduceSubDiff, Nat.reduceBEq]) | (refine hN _ ?_ ?_ Wk.kk) | (with_reducible refine And.intro ?_ ?_) | (with_reducible omega) | (exact ok_ints) | (exact cells_ints) | (exact no_mem) | (with_reducible exact plain_ints) | (refine le_maxLen ?_; omega) | (refine List.forall_mem_cons.2 ⟨?_, ?_⟩) | (simp only [go_sem, Nat.reduceAdd, Nat.reduceLT, List.mem_cons, List.not_mem_nil, forall_eq]; done)))
    all_goals (first | omega | exact ret_cbd rfl rfl rfl (by simp only [go_sem]) (by simp only [go_sem, List.length_cons, List.length_nil]) rfl (by simp only [go_sem]) rfl rfl)
  · rw [decide_eq_false hq, Bool.false_and]
    refine Ctr.of (n := 23) (rs := [.cell 4 95, .tmp 5]) Try.func78 rfl rfl Try.ntmps78 rfl rfl (by kernel_rfl) Try.checked.mixed ?_
    simp (disch := first | omega | decide +kernel) only [go_sem, reduceEqDiff, reduceLT, reduceAdd, reduceMul, reduceSub, ↓reduceIte, reduceCtorEq, reduceLeDiff, reduceSubDiff, Nat.reduceBEq]
    (repeat' (first | (refine gsel_split (fun h => ?_) (fun h => ?_) <;> (have h' := h) <;> (try simp only [decide_eq_true_eq, decide_eq_false_iff_not, Bool.not_eq_true', Bool.not_eq_false', bne_iff_ne, ne_eq, beq_iff_eq, bne_eq_false_iff_eq, beq_eq_false_iff_ne, Int.ofNat_lt, Int.ofNat_le, Int.not_lt, Int.not_le, Decidable.not_not, Bool.and_eq_true, Bool.or_eq_true, Bool.or_eq_false_iff, gt_iff_lt, ge_iff_le] at h') <;> first | (exfalso; omega) | (simp (disch := first | omega | decide +kernel) only [h, go_sem, reduceEqDiff, reduceLT, reduceAdd, reduceMul, reduceSub, ↓reduceIte, reduceCtorEq, reduceLeDiff, reduceSubDiff, Nat.reduceBEq] <;> clear h)) | ((first | refine hE _ _ ret_ne ?_ | refine hE _ _ exit_ne ?_) <;> try simp (disch := first | omega | decide +kernel) only [go_sem, reduceEqDiff, reduceLT, reduceAdd, reduceMul, reduceSub, ↓reduceIte, reduceCtorEq, reduceLeDiff, reduceSubDiff, Nat.reduceBEq]) | (refine hN _ ?_ ?_ Wk.kk) | (with_reducible refine And.intro ?_ ?_) | (with_reducible omega) | (exact ok_ints) | (exact cells_ints) | (exact no_mem) | (with_reducible exact plain_ints) | (refine le_maxLen ?_; omega) | (refine List.forall_mem_cons.2 ⟨?_, ?_⟩) | (simp only [go_sem, Nat.reduceAdd, Nat.reduceLT, List.mem_cons, List.not_mem_nil, forall_eq]; done)))
    all_goals (first | omega | exact ret_cbd rfl rfl rfl (by simp only [go_sem]) (by simp only [go_sem, List.length_cons, List.length_nil]) rfl (by simp only [go_sem]) rfl rfl)
def okTm (p : Int) (n : Nat) (a : List (Int × Int)) (i : Nat) : Bool :=
  ((decide (0 ≤ (a.getD i (0, 0)).1) && decide ((a.getD i (0, 0)).1 ≤ (n : Int) - 1)) && (decide (1 ≤ (a.getD i (0, 0)).2) && decide ((a.getD i (0, 0)).2 ≤ p - 1))) &&
    (decide (i = 0) || decide ((a.getD (i - 1) (0, 0)).1 < (a.getD i (0, 0)).1))
def isT (p : Int) (n : Nat) (a : List (Int × Int)) : Bool := (List.range a.length).all (okTm p n a)
theorem isT_bad {p : Int} {n : Nat} {a : List (Int × Int)} {i : Nat} (h : i < a.length) (h' : okTm p n a i = false) : isT p n a = false := by
  rw [isT, List.all_eq_false]
  exact ⟨i, List.mem_range.2 h, by rw [h']; simp⟩
theorem isT_good {p : Int} {n : Nat} {a : List (Int × Int)} (h : ∀ j, j < a.length → okTm p n a j = true) : isT p n a = true := by
  rw [isT, List.all_eq_true]
  exact fun j hj => h j (List.mem_range.1 hj)
theorem bitsOk_ok {u : Nat} (hu : u ≤ 6) (m : Int) : Ctr Try.prog 168 [.int .i64 u, .int .i64 m] false (.d (.bool (decide (0 ≤ m) && decide (m ≤ ((2 ^ u : Nat) : Int) - 1)))) [] := by
  have h2 := pow_le6 hu
  have e : IntKind.wrap .i64 (1 * 2 ^ min u 64) = ((2 ^ u : Nat) : Int) := shl_one (by omega)
  have c1 := within_ok m 0 (((2 ^ u : Nat) : Int) - 1)
  generalize 2 ^ u = n at *
  refine Ctr.of (n := 10) (rs := [.tmp 4]) Try.func168 rfl rfl Try.ntmps168 rfl rfl (by kernel_rfl) Try.checked.mixed ?_
  simp (disch := first | omega | decide +kernel) only [e, go_sem, reduceEqDiff, reduceLT, reduceAdd, reduceMul, reduceSub, ↓reduceIte, reduceCtorEq, reduceLeDiff, reduceSubDiff, Nat.reduceBEq]
  (repeat' (first | (refine gsel_split (fun h => ?_) (fun h => ?_) <;> (have h' := h) <;> (try simp only [decide_eq_true_eq, decide_eq_false_iff_not, Bool.not_eq_true', Bool.not_eq_false', bne_iff_ne, ne_eq, beq_iff_eq, bne_eq_false_iff_eq, beq_eq_false_iff_ne, Int.ofNat_lt, Int.ofNat_le, Int.not_lt, Int.not_le, Decidable.not_not, Bool.and_eq_true, Bool.or_eq_true, Bool.or_eq_false_iff, gt_iff_lt, ge_iff_le] at h') <;> first | (exfalso; omega) | (simp (disch := first | omega | decide +kernel) only [h, e, go_sem, reduceEqDiff, reduceLT, reduceAdd, reduceMul, reduceSub, ↓reduceIte, reduceCtorEq, reduceLeDiff, reduceSubDiff, Nat.reduceBEq] <;> clear h)) | ((first | refine callX_new (c1) rfl (by decide) ?_ | refine callY_new (c1) rfl ?_ | refine hE _ _ ret_ne ?_ | refine hE _ _ exit_ne ?_) <;> try simp (disch := first | omega | decide +kernel) only [e, go_sem, reduceEqDiff, reduceLT, reduceAdd, reduceMul, reduceSub, ↓reduceIte, reduceCtorEq, reduceLeDiff, reduceSubDiff, Nat.reduceBEq]) | (refine hN _ ?_ ?_ Wk.kk) | (with_reducible refine And.intro ?_ ?_) | (with_reducible omega) | (exact ok_ints) | (exact cells_ints) | (exact no_mem) | (with_reducible exact plain_ints) | (refine le_maxLen ?_; omega) | (refine List.forall_mem_cons.2 ⟨?_, ?_⟩) | (simp only [go_sem, Nat.reduceAdd, Nat.reduceLT, List.mem_cons, List.not_mem_nil, forall_eq]; done)))
  all_goals (first | omega)
section
variable {p : Int} {u : Nat} (hp : 1 < p ∧ p ≤ 5) (hu : u ≤ 6)
include hp hu
set_option maxHeartbeats 4000000 in
theorem is_ok {a : List (Int × Int)} (hl : a.length ≤ 4294967296) : Ctr Try.prog 118 [D.ring p u, D.tms a] false (.d (.bool (isT p (2 ^ u) a))) [] := by
  have h2 := pow_le6 hu
  have c0 := fun m => bitsOk_ok hu m
  generalize 2 ^ u = n at *
  refine Ctr.of (n := 45) (rs := [.tmp 4]) Try.func118 rfl rfl Try.ntmps118 rfl rfl (by kernel_rfl) Try.checked.mixed ?_
  simp (disch := first | omega | decide +kernel) only [go_sem, reduceEqDiff, reduceLT, reduceAdd, reduceMul, reduceSub, ↓reduceIte, reduceCtorEq, reduceLeDiff, reduceSubDiff, Nat.reduceBEq]
  (repeat' (first | (refine gsel_split (fun h => ?_) (fun h => ?_) <;> (have h' := h) <;> (try simp only [decide_eq_true_eq, decide_eq_false_iff_not, Bool.not_eq_true', Bool.not_eq_false', bne_iff_ne, ne_eq, beq_iff_eq, bne_eq_false_iff_eq, beq_eq_false_iff_ne, Int.ofNat_lt, Int.ofNat_le, Int.not_lt, Int.not_le, Decidable.not_not, Bool.and_eq_true, Bool.or_eq_true, Bool.or_eq_false_iff, gt_iff_lt, ge_iff_le] at h') <;> first | (exfalso; omega) | (simp (disch := first | omega | decide +kernel) only [h, go_sem, reduceEqDiff, reduceLT, reduceAdd, reduceMul, reduceSub, ↓reduceIte, reduceCtorEq, reduceLeDiff, reduceSubDiff, Nat.reduceBEq] <;> clear h)) | ((first | refine hE _ _ ret_ne ?_ | refine hE _ _ exit_ne ?_) <;> try simp (disch := first | omega | decide +kernel) only [go_sem, reduceEqDiff, reduceLT, reduceAdd, reduceMul, reduceSub, ↓reduceIte, reduceCtorEq, reduceLeDiff, reduceSubDiff, Nat.reduceBEq]) | (refine hN _ ?_ ?_ Wk.kk) | (with_reducible refine And.intro ?_ ?_) | (with_reducible omega) | (exact ok_ints) | (exact cells_ints) | (exact no_mem) | (with_reducible exact plain_ints) | (refine le_maxLen ?_; omega) | (refine List.forall_mem_cons.2 ⟨?_, ?_⟩) | (simp only [go_sem, Nat.reduceAdd, Nat.reduceLT, List.mem_cons, List.not_mem_nil, forall_eq]; done)))
  refine Ok.loopN [44, 43, 42, 41, 40, 39, 38, 37, 36, 35, 34, 33, 32, 31, 30, 29, 28, 27, 26, 25, 24, 23, 22, 21, 20, 19, 18, 17, 16, 15, 14, 13, 12, 11, 10, 9, 6, 5, 4, 3, 0] (fun i _ => [(9, .d (.int .i64 (i : Nat)))]) (fun _ _ => []) a.length
    (fun i (_ : Unit) => ∀ j, j < i → okTm p n a j = true) () (by simp) (Wk.kk) ?_
  rintro R i ⟨⟩ hN hE hi hI
  by_cases hlt : i < a.length
  · have hea := el_tm hlt
    have c1 := c0 (a.getD i (0, 0)).1
    have c2 := within_ok (a.getD i (0, 0)).2 1 (p - 1)
    have hgood : okTm p n a i = true → ∀ j, j < i + 1 → okTm p n a j = true := fun h j hj => by
      by_cases e : j = i
      · rw [e]; exact h
      · exact hI j (by omega)
    have hbad : okTm p n a i = false → isT p n a = false := isT_bad hlt
    unfold okTm at hgood hbad
    clear hI c0
    by_cases h0 : i = 0
    · subst h0
      generalize (a.getD 0 (0, 0)).1 = m at *
      generalize (a.getD 0 (0, 0)).2 = c at *
      simp (disch := first | omega | decide +kernel) only [hea, go_sem, reduceEqDiff, reduceLT, reduceAdd, reduceMul, reduceSub, ↓reduceIte, reduceCtorEq, reduceLeDiff, reduceSubDiff, Nat.reduceBEq]
      (repeat' (first | (refine gsel_split (fun h => ?_) (fun h => ?_) <;> (have h' := h) <;> (try simp only [decide_eq_true_eq, decide_eq_false_iff_not, Bool.not_eq_true', Bool.not_eq_false', bne_iff_ne, ne_eq, beq_iff_eq, bne_eq_false_iff_eq, beq_eq_false_iff_ne, Int.ofNat_lt, Int.ofNat_le, Int.not_lt, Int.not_le, Decidable.not_not, Bool.and_eq_true, Bool.or_eq_true, Bool.or_eq_false_iff, gt_iff_lt, ge_iff_le] at h') <;> first | (exfalso; omega) | (simp (disch := first | omega | decide +kernel) only [h, hea, go_sem, reduceEqDiff, reduceLT, reduceAdd, reduceMul, reduceSub, ↓reduceIte, reduceCtorEq, reduceLeDiff, reduceSubDiff, Nat.reduceBEq] <;> clear h)) | ((first | refine callX_new (c1) rfl (by decide) ?_ | refine callY_new (c1) rfl ?_ | refine callX_new (c2) rfl (by decide) ?_ | refine callY_new (c2) rfl ?_ | refine hE _ _ ret_ne ?_ | refine hE _ _ exit_ne ?_) <;> try simp (disch := first | omega | decide +kernel) only [hea, go_sem, reduceEqDiff, reduceLT, reduceAdd, reduceMul, reduceSub, ↓reduceIte, reduceCtorEq, reduceLeDiff, reduceSubDiff, Nat.reduceBEq]) | (refine hN _ ?_ ?_ Wk.kk) | (with_reducible refine And.intro ?_ ?_) | (with_reducible omega) | (exact ok_ints) | (exact cells_ints) | (exact no_mem) | (with_reducible exact plain_ints) | (refine le_maxLen ?_; omega) | (refine List.forall_mem_cons.2 ⟨?_, ?_⟩) | (simp only [go_sem, Nat.reduceAdd, Nat.reduceLT, List.mem_cons, List.not_mem_nil, forall_eq]; done)))
      all_goals (first | omega | (refine hN () _ hlt (hgood (by simp_all <;> (intros; omega))) (by refine Wk.auto ?_ ?_ <;> simp [extraK, lk, killL, St.kill, wipeO, wipeS, AV.has, AV.hasL, AO.wipe, List.map_set, updSt, insL, dropS, ins, ]); done) | (rw [hbad (by simp_all <;> (intros; omega))]; exact ⟨rfl, rfl⟩) | (rw [hbad (by simp_all <;> (intros; omega))]; done))
    · have heb := el_tm (xs := a) (i := i - 1) (by omega)
      have hti : (i : Int) - 1 = ((i - 1 : Nat) : Int) := by omega
      have htw : IntKind.i64.wrap ((i - 1 : Nat) : Int) = ((i - 1 : Nat) : Int) := wrap_of (by omega)
      generalize (a.getD (i - 1) (0, 0)).1 = m0 at *
      generalize (a.getD (i - 1) (0, 0)).2 = d0 at *
      generalize (a.getD i (0, 0)).1 = m at *
      generalize (a.getD i (0, 0)).2 = c at *
      simp (disch := first | omega | decide +kernel) only [hea, heb, hti, htw, go_sem, reduceEqDiff, reduceLT, reduceAdd, reduceMul, reduceSub, ↓reduceIte, reduceCtorEq, reduceLeDiff, reduceSubDiff, Nat.reduceBEq]
      (repeat' (first | (refine gsel_split (fun h => ?_) (fun h => ?_) <;> (have h' := h) <;> (try simp only [decide_eq_true_eq, decide_eq_false_iff_not, Bool.not_eq_true', Bool.not_eq_false', bne_iff_ne, ne_eq, beq_iff_eq, bne_eq_false_iff_eq, beq_eq_false_iff_ne, Int.ofNat_lt, Int.ofNat_le, Int.not_lt, Int.not_le, Decidable.not_not, Bool.and_eq_true, Bool.or_eq_true, Bool.or_eq_false_iff, gt_iff_lt, ge_iff_le] at h') <;> first | (exfalso; omega) | (simp (disch := first | omega | decide +kernel) only [h, hea, heb, hti, htw, go_sem, reduceEqDiff, reduceLT, reduceAdd, reduceMul, reduceSub, ↓reduceIte, reduceCtorEq, reduceLeDiff, reduceSubDiff, Nat.reduceBEq] <;> clear h)) | ((first | refine callX_new (c1) rfl (by decide) ?_ | refine callY_new (c1) rfl ?_ | refine callX_new (c2) rfl (by decide) ?_ | refine callY_new (c2) rfl ?_ | refine hE _ _ ret_ne ?_ | refine hE _ _ exit_ne ?_) <;> try simp (disch := first | omega | decide +kernel) only [hea, heb, hti, htw, go_sem, reduceEqDiff, reduceLT, reduceAdd, reduceMul, reduceSub, ↓reduceIte, reduceCtorEq, reduceLeDiff, reduceSubDiff, Nat.reduceBEq]) | (refine hN _ ?_ ?_ Wk.kk) | (with_reducible refine And.intro ?_ ?_) | (with_reducible omega) | (exact ok_ints) | (exact cells_ints) | (exact no_mem) | (with_reducible exact plain_ints) | (refine le_maxLen ?_; omega) | (refine List.forall_mem_cons.2 ⟨?_, ?_⟩) | (simp only [go_sem, Nat.reduceAdd, Nat.reduceLT, List.mem_cons, List.not_mem_nil, forall_eq]; done)))
      all_goals (first | omega | (refine hN () _ hlt (hgood (by simp_all <;> (intros; omega))) (by refine Wk.auto ?_ ?_ <;> simp [extraK, lk, killL, St.kill, wipeO, wipeS, AV.has, AV.hasL, AO.wipe, List.map_set, updSt, insL, dropS, ins, ]); done) | (rw [hbad (by simp_all <;> (intros; omega))]; exact ⟨rfl, rfl⟩) | (rw [hbad (by simp_all <;> (intros; omega))]; done))
  · obtain rfl : i = a.length := by omega
    have hT := isT_good (p := p) (n := n) hI
    generalize isT p n a = t at *
    subst hT
    simp (disch := first | omega | decide +kernel) only [go_sem, reduceEqDiff, reduceLT, reduceAdd, reduceMul, reduceSub, ↓reduceIte, reduceCtorEq, reduceLeDiff, reduceSubDiff, Nat.reduceBEq]
    (repeat' (first | (refine gsel_split (fun h => ?_) (fun h => ?_) <;> (have h' := h) <;> (try simp only [decide_eq_true_eq, decide_eq_false_iff_not, Bool.not_eq_true', Bool.not_eq_false', bne_iff_ne, ne_eq, beq_iff_eq, bne_eq_false_iff_eq, beq_eq_false_iff_ne, Int.ofNat_lt, Int.ofNat_le, Int.not_lt, Int.not_le, Decidable.not_not, Bool.and_eq_true, Bool.or_eq_true, Bool.or_eq_false_iff, gt_iff_lt, ge_iff_le] at h') <;> first | (exfalso; omega) | (simp (disch := first | omega | decide +kernel) only [h, go_sem, reduceEqDiff, reduceLT, reduceAdd, reduceMul, reduceSub, ↓reduceIte, reduceCtorEq, reduceLeDiff, reduceSubDiff, Nat.reduceBEq] <;> clear h)) | ((first | refine hE _ _ ret_ne ?_ | refine hE _ _ exit_ne ?_) <;> try simp (disch := first | omega | decide +kernel) only [go_sem, reduceEqDiff, reduceLT, reduceAdd, reduceMul, reduceSub, ↓reduceIte, reduceCtorEq, reduceLeDiff, reduceSubDiff, Nat.reduceBEq]) | (refine hN _ ?_ ?_ Wk.kk) | (with_reducible refine And.intro ?_ ?_) | (with_reducible omega) | (exact ok_ints) | (exact cells_ints) | (exact no_mem) | (with_reducible exact plain_ints) | (refine le_maxLen ?_; omega) | (refine List.forall_mem_cons.2 ⟨?_, ?_⟩) | (simp only [go_sem, Nat.reduceAdd, Nat.reduceLT, List.mem_cons, List.not_mem_nil, forall_eq]; done)))
    all_goals (first | omega)
end
end Abs.Y
