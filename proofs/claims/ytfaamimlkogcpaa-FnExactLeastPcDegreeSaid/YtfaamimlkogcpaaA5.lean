/- What functions of this program compute, as contracts over plain data, with what the proofs need of them. No condition. -/
import Derived.Test.YtfaamimlkogcpaaA4
set_option linter.all false
namespace Abs.Y
open Go Go.Proofs Abs
open Nat renaming reduceEqDiff → zqa, reduceLT → zqb, reduceAdd → zqc, reduceMul → zqd, reduceSub → zqe, reduceLeDiff → zqf, reduceSubDiff → zqg, reduceBEq → zqh
open Bool renaming not_eq_true' → zba, not_eq_false' → zbb, and_eq_true → zbc, or_eq_true → zbd, or_eq_false_iff → zbe
open Int renaming ofNat_lt → zia, ofNat_le → zib, not_lt → zic, not_le → zid
open Decidable renaming not_not → zda
set_option maxRecDepth 100000

theorem mem_spT {v : List Int} {t : (Int × Int)} : t ∈ spT v ↔ ∃ m : Nat, m < v.length ∧ v.getD m 0 ≠ 0 ∧ t = ((m : Int), v.getD m 0) := by
  unfold spT
  simp only [List.mem_map, List.mem_filter, List.mem_range, decide_eq_true_eq]
  constructor
  · rintro ⟨m, ⟨h1, h2⟩, rfl⟩; exact ⟨m, h1, h2, rfl⟩
  · rintro ⟨m, h1, h2, rfl⟩; exact ⟨m, ⟨h1, h2⟩, rfl⟩
theorem spT_at {v : List Int} {i : Nat} (h : i < (spT v).length) : ∃ m : Nat, m < v.length ∧ v.getD m 0 ≠ 0 ∧ (spT v).getD i (0, 0) = ((m : Int), v.getD m 0) :=
  mem_spT.1 (getD_mem (z := ((0, 0) : (Int × Int))) h)
theorem spT_has {v : List Int} {m : Nat} (h : v.getD m 0 ≠ 0) : ∃ i, i < (spT v).length ∧ (spT v).getD i (0, 0) = ((m : Int), v.getD m 0) := by
  obtain ⟨i, hi, he⟩ := mem_getD (z := ((0, 0) : (Int × Int))) (mem_spT.2 ⟨m, lt_of_get h, h, rfl⟩)
  exact ⟨i, hi, he⟩
theorem spT_nil {v : List Int} : spT v = [] ↔ ldI v < 0 := by
  rw [ldI_neg]
  constructor
  · intro h i
    by_cases hi : v.getD i 0 = 0
    · exact hi
    · obtain ⟨j, hj, _⟩ := spT_has hi
      rw [h] at hj; simp at hj
  · intro h
    cases hs : spT v with
    | nil => rfl
    | cons t r =>
      obtain ⟨m, _, h2, _⟩ := mem_spT.1 (show t ∈ spT v by rw [hs]; simp)
      exact absurd (h m) h2
theorem l20Before_ok {m n : Nat} (hm : m < 64) (hn : n < 64) : Ctr Try.prog 140 [.int .i64 m, .int .i64 n] false (.d (.bool (decide (kG m < kG n)))) [] := by
  have c1 := l14Count_ok hm
  have c2 := l14Count_ok hn
  have hk := kG_lt hm hn
  have h1 := cnt_le m
  have h2 := cnt_le n
  generalize kG m = x at *
  generalize kG n = y at *
  generalize cnt m = a at *
  generalize cnt n = b at *
  refine Ctr.of (n := 18) (rs := [.tmp 4]) Try.func140 rfl rfl Try.ntmps140 rfl rfl (by kernel_rfl) Try.checked.mixed ?_
  simp (disch := first | omega | decide +kernel) only [go_sem, zqa, zqb, zqc, zqd, zqe, ↓reduceIte, reduceCtorEq, zqf, zqg, zqh]
  (repeat' (first | ((first | (refine gsel_split (fun q' => ?_) (fun q' => ?_) <;> (have h' := q') <;> (try simp only [decide_eq_true_eq, decide_eq_false_iff_not, zba, zbb, bne_iff_ne, ne_eq, beq_iff_eq, bne_eq_false_iff_eq, beq_eq_false_iff_ne, zia, zib, zic, zid, zda, zbc, zbd, zbe, gt_iff_lt, ge_iff_le] at h') <;> try (exfalso; omega)) | (have q' := trivial; first | refine callX_new (c1) rfl (by decide) ?_ | refine callY_new (c1) rfl ?_ | refine callX_new (c2) rfl (by decide) ?_ | refine callY_new (c2) rfl ?_ | refine hE _ _ ret_ne ?_ | refine hE _ _ exit_ne ?_)) <;> (try simp (disch := first | omega | decide +kernel) only [q', go_sem, zqa, zqb, zqc, zqd, zqe, ↓reduceIte, reduceCtorEq, zqf, zqg, zqh]) <;> clear q') | (refine hN _ ?_ ?_ Wk.kk) | (with_reducible refine And.intro ?_ ?_) | (with_reducible omega) | (exact ok_ints) | (exact cells_ints) | (exact no_mem) | (with_reducible exact plain_ints) | (refine le_maxLen ?_; omega) | (refine List.forall_mem_cons.2 ⟨?_, ?_⟩) | (simp only [go_sem, zqc, zqb, List.mem_cons, List.not_mem_nil, forall_eq]; done)))
  all_goals (first | omega | (congr 1; rw [decide_eq_decide]; omega))
set_option maxHeartbeats 4000000 in
theorem l20Lead_ok {v : List Int} (hl : v.length ≤ 64) (hnz : ¬ ldI v < 0) : Ctr Try.prog 137 [D.tms (spT v)] false (.d (.int .i64 (ldG v))) [] := by
  have hne : spT v ≠ [] := fun h => hnz (spT_nil.1 h)
  have hlen : 0 < (spT v).length := List.length_pos_iff.2 hne
  have hlb := Tms.len (v := v) rfl hl
  obtain ⟨m0, h01, h02, h03⟩ := spT_at hlen
  have he0 := el_tm (xs := spT v) (i := 0) hlen
  rw [h03] at he0
  refine Ctr.of (n := 28) (rs := [.tmp 2]) Try.func137 rfl rfl Try.ntmps137 rfl rfl (by kernel_rfl) Try.checked.mixed ?_
  simp (disch := first | omega | decide +kernel) only [he0, go_sem, zqa, zqb, zqc, zqd, zqe, ↓reduceIte, reduceCtorEq, zqf, zqg, zqh]
  (repeat' (first | ((first | (refine gsel_split (fun q' => ?_) (fun q' => ?_) <;> (have h' := q') <;> (try simp only [decide_eq_true_eq, decide_eq_false_iff_not, zba, zbb, bne_iff_ne, ne_eq, beq_iff_eq, bne_eq_false_iff_eq, beq_eq_false_iff_ne, zia, zib, zic, zid, zda, zbc, zbd, zbe, gt_iff_lt, ge_iff_le] at h') <;> try (exfalso; omega)) | (have q' := trivial; first | refine hE _ _ ret_ne ?_ | refine hE _ _ exit_ne ?_)) <;> (try simp (disch := first | omega | decide +kernel) only [q', he0, go_sem, zqa, zqb, zqc, zqd, zqe, ↓reduceIte, reduceCtorEq, zqf, zqg, zqh]) <;> clear q') | (refine hN _ ?_ ?_ Wk.kk) | (with_reducible refine And.intro ?_ ?_) | (with_reducible omega) | (exact ok_ints) | (exact cells_ints) | (exact no_mem) | (with_reducible exact plain_ints) | (refine le_maxLen ?_; omega) | (refine List.forall_mem_cons.2 ⟨?_, ?_⟩) | (simp only [go_sem, zqc, zqb, List.mem_cons, List.not_mem_nil, forall_eq]; done)))
  refine Ok.loopN [26, 25, 24, 23, 22, 21, 20, 19, 18, 17, 16, 15, 14, 13, 12, 11, 10, 9, 8, 7, 6, 5, 4, 3, 1] (fun i (k : Nat) => [(4, .d (.int .i64 ((i : Nat) + 1 : Int))), (3, .d (.int .i64 (k : Nat)))]) (fun _ _ => []) ((spT v).length - 1)
    (fun i k => k < v.length ∧ v.getD k 0 ≠ 0 ∧ ∀ j (m : Nat), j ≤ i → j < (spT v).length → ((spT v).getD j (0, 0)).1 = m → kG m ≤ kG k) m0 ⟨h01, h02, fun j m hj hj2 hm => by
      have : j = 0 := by omega
      rw [this, h03] at hm
      have : m = m0 := by simp only at hm; omega
      rw [this]; exact Nat.le_refl _⟩ (by refine Wk.auto ?_ ?_ <;> simp [extraK, lk, killL, St.kill, wipeO, wipeS, AV.has, AV.hasL, AO.wipe, List.map_set, updSt, insL, dropS, ins, ]) ?_
  rintro R i k hN hE hi ⟨hk1, hk2, hI⟩
  by_cases hlt : i + 1 < (spT v).length
  · obtain ⟨m, h1, h2, h3⟩ := spT_at hlt
    have hei := el_tm (xs := spT v) hlt
    rw [h3] at hei
    have hti : ((i : Int) + 1).toNat = i + 1 := by omega
    have c1 := l20Before_ok (m := k) (n := m) (by omega) (by omega)
    by_cases hb : kG k < kG m
    · rw [decide_eq_true hb] at c1
      have hI2 : ∀ j (m' : Nat), j ≤ i + 1 → j < (spT v).length → ((spT v).getD j (0, 0)).1 = m' → kG m' ≤ kG m := fun j m' hj hj2 hm => by
        by_cases e : j = i + 1
        · rw [e, h3] at hm
          have : m' = m := by simp only at hm; omega
          rw [this]; exact Nat.le_refl _
        · have := hI j m' (by omega) hj2 hm; omega
      clear hI
      simp (disch := first | omega | decide +kernel) only [hti, hei, go_sem, zqa, zqb, zqc, zqd, zqe, ↓reduceIte, reduceCtorEq, zqf, zqg, zqh]
      (repeat' (first | ((first | (refine gsel_split (fun q' => ?_) (fun q' => ?_) <;> (have h' := q') <;> (try simp only [decide_eq_true_eq, decide_eq_false_iff_not, zba, zbb, bne_iff_ne, ne_eq, beq_iff_eq, bne_eq_false_iff_eq, beq_eq_false_iff_ne, zia, zib, zic, zid, zda, zbc, zbd, zbe, gt_iff_lt, ge_iff_le] at h') <;> try (exfalso; omega)) | (have q' := trivial; first | refine callX_new (c1) rfl (by decide) ?_ | refine callY_new (c1) rfl ?_ | refine hE _ _ ret_ne ?_ | refine hE _ _ exit_ne ?_)) <;> (try simp (disch := first | omega | decide +kernel) only [q', hti, hei, go_sem, zqa, zqb, zqc, zqd, zqe, ↓reduceIte, reduceCtorEq, zqf, zqg, zqh]) <;> clear q') | (refine hN _ ?_ ?_ Wk.kk) | (with_reducible refine And.intro ?_ ?_) | (with_reducible omega) | (exact ok_ints) | (exact cells_ints) | (exact no_mem) | (with_reducible exact plain_ints) | (refine le_maxLen ?_; omega) | (refine List.forall_mem_cons.2 ⟨?_, ?_⟩) | (simp only [go_sem, zqc, zqb, List.mem_cons, List.not_mem_nil, forall_eq]; done)))
      all_goals (first | omega | (refine hN m _ (by omega) ⟨h1, h2, hI2⟩ (by refine Wk.auto ?_ ?_ <;> simp [extraK, lk, killL, St.kill, wipeO, wipeS, AV.has, AV.hasL, AO.wipe, List.map_set, updSt, insL, dropS, ins, ]); done))
    · rw [decide_eq_false hb] at c1
      have hI2 : ∀ j (m' : Nat), j ≤ i + 1 → j < (spT v).length → ((spT v).getD j (0, 0)).1 = m' → kG m' ≤ kG k := fun j m' hj hj2 hm => by
        by_cases e : j = i + 1
        · rw [e, h3] at hm
          have : m' = m := by simp only at hm; omega
          rw [this]; omega
        · exact hI j m' (by omega) hj2 hm
      clear hI
      simp (disch := first | omega | decide +kernel) only [hti, hei, go_sem, zqa, zqb, zqc, zqd, zqe, ↓reduceIte, reduceCtorEq, zqf, zqg, zqh]
      (repeat' (first | ((first | (refine gsel_split (fun q' => ?_) (fun q' => ?_) <;> (have h' := q') <;> (try simp only [decide_eq_true_eq, decide_eq_false_iff_not, zba, zbb, bne_iff_ne, ne_eq, beq_iff_eq, bne_eq_false_iff_eq, beq_eq_false_iff_ne, zia, zib, zic, zid, zda, zbc, zbd, zbe, gt_iff_lt, ge_iff_le] at h') <;> try (exfalso; omega)) | (have q' := trivial; first | refine callX_new (c1) rfl (by decide) ?_ | refine callY_new (c1) rfl ?_ | refine hE _ _ ret_ne ?_ | refine hE _ _ exit_ne ?_)) <;> (try simp (disch := first | omega | decide +kernel) only [q', hti, hei, go_sem, zqa, zqb, zqc, zqd, zqe, ↓reduceIte, reduceCtorEq, zqf, zqg, zqh]) <;> clear q') | (refine hN _ ?_ ?_ Wk.kk) | (with_reducible refine And.intro ?_ ?_) | (with_reducible omega) | (exact ok_ints) | (exact cells_ints) | (exact no_mem) | (with_reducible exact plain_ints) | (refine le_maxLen ?_; omega) | (refine List.forall_mem_cons.2 ⟨?_, ?_⟩) | (simp only [go_sem, zqc, zqb, List.mem_cons, List.not_mem_nil, forall_eq]; done)))
      all_goals (first | omega | (refine hN k _ (by omega) ⟨hk1, hk2, hI2⟩ (by refine Wk.auto ?_ ?_ <;> simp [extraK, lk, killL, St.kill, wipeO, wipeS, AV.has, AV.hasL, AO.wipe, List.map_set, updSt, insL, dropS, ins, ]); done))
  · have hld : ldG v = k := (lds_G hl).eq rfl hk2 fun j hj => by
      obtain ⟨q, hq1, hq2⟩ := spT_has hj
      exact hI q j (by omega) hq1 (by rw [hq2])
    rw [hld] at hE
    simp (disch := first | omega | decide +kernel) only [go_sem, zqa, zqb, zqc, zqd, zqe, ↓reduceIte, reduceCtorEq, zqf, zqg, zqh]
    (repeat' (first | ((first | (refine gsel_split (fun q' => ?_) (fun q' => ?_) <;> (have h' := q') <;> (try simp only [decide_eq_true_eq, decide_eq_false_iff_not, zba, zbb, bne_iff_ne, ne_eq, beq_iff_eq, bne_eq_false_iff_eq, beq_eq_false_iff_ne, zia, zib, zic, zid, zda, zbc, zbd, zbe, gt_iff_lt, ge_iff_le] at h') <;> try (exfalso; omega)) | (have q' := trivial; first | refine hE _ _ ret_ne ?_ | refine hE _ _ exit_ne ?_)) <;> (try simp (disch := first | omega | decide +kernel) only [q', go_sem, zqa, zqb, zqc, zqd, zqe, ↓reduceIte, reduceCtorEq, zqf, zqg, zqh]) <;> clear q') | (refine hN _ ?_ ?_ Wk.kk) | (with_reducible refine And.intro ?_ ?_) | (with_reducible omega) | (exact ok_ints) | (exact cells_ints) | (exact no_mem) | (with_reducible exact plain_ints) | (refine le_maxLen ?_; omega) | (refine List.forall_mem_cons.2 ⟨?_, ?_⟩) | (simp only [go_sem, zqc, zqb, List.mem_cons, List.not_mem_nil, forall_eq]; done)))
    all_goals (first | omega)
set_option maxHeartbeats 4000000 in
theorem l20Coeff_ok {v : List Int} (hl : v.length ≤ 64) (m : Nat) : Ctr Try.prog 139 [D.tms (spT v), .int .i64 m] false (.d (.int .i64 (v.getD m 0))) [] := by
  have hlb := Tms.len (v := v) rfl hl
  refine Ctr.of (n := 24) (rs := [.tmp 4]) Try.func139 rfl rfl Try.ntmps139 rfl rfl (by kernel_rfl) Try.checked.mixed ?_
  simp (disch := first | omega | decide +kernel) only [go_sem, zqa, zqb, zqc, zqd, zqe, ↓reduceIte, reduceCtorEq, zqf, zqg, zqh]
  (repeat' (first | ((first | (refine gsel_split (fun q' => ?_) (fun q' => ?_) <;> (have h' := q') <;> (try simp only [decide_eq_true_eq, decide_eq_false_iff_not, zba, zbb, bne_iff_ne, ne_eq, beq_iff_eq, bne_eq_false_iff_eq, beq_eq_false_iff_ne, zia, zib, zic, zid, zda, zbc, zbd, zbe, gt_iff_lt, ge_iff_le] at h') <;> try (exfalso; omega)) | (have q' := trivial; first | refine hE _ _ ret_ne ?_ | refine hE _ _ exit_ne ?_)) <;> (try simp (disch := first | omega | decide +kernel) only [q', go_sem, zqa, zqb, zqc, zqd, zqe, ↓reduceIte, reduceCtorEq, zqf, zqg, zqh]) <;> clear q') | (refine hN _ ?_ ?_ Wk.kk) | (with_reducible refine And.intro ?_ ?_) | (with_reducible omega) | (exact ok_ints) | (exact cells_ints) | (exact no_mem) | (with_reducible exact plain_ints) | (refine le_maxLen ?_; omega) | (refine List.forall_mem_cons.2 ⟨?_, ?_⟩) | (simp only [go_sem, zqc, zqb, List.mem_cons, List.not_mem_nil, forall_eq]; done)))
  refine Ok.loopN [23, 22, 21, 20, 19, 18, 17, 16, 15, 14, 13, 12, 11, 10, 9, 8, 7, 6, 5, 4, 3, 2] (fun i _ => [(5, .d (.int .i64 (i : Nat)))]) (fun _ _ => []) (spT v).length
    (fun i (_ : Unit) => ∀ j, j < i → ((spT v).getD j (0, 0)).1 ≠ (m : Int)) () (by simp) (Wk.kk) ?_
  rintro R i ⟨⟩ hN hE hi hI
  by_cases hlt : i < (spT v).length
  · obtain ⟨q, h1, h2, h3⟩ := spT_at hlt
    have hei := el_tm (xs := spT v) hlt
    rw [h3] at hei
    by_cases e : q = m
    · subst e
      simp (disch := first | omega | decide +kernel) only [hei, go_sem, zqa, zqb, zqc, zqd, zqe, ↓reduceIte, reduceCtorEq, zqf, zqg, zqh]
      (repeat' (first | ((first | (refine gsel_split (fun q' => ?_) (fun q' => ?_) <;> (have h' := q') <;> (try simp only [decide_eq_true_eq, decide_eq_false_iff_not, zba, zbb, bne_iff_ne, ne_eq, beq_iff_eq, bne_eq_false_iff_eq, beq_eq_false_iff_ne, zia, zib, zic, zid, zda, zbc, zbd, zbe, gt_iff_lt, ge_iff_le] at h') <;> try (exfalso; omega)) | (have q' := trivial; first | refine hE _ _ ret_ne ?_ | refine hE _ _ exit_ne ?_)) <;> (try simp (disch := first | omega | decide +kernel) only [q', hei, go_sem, zqa, zqb, zqc, zqd, zqe, ↓reduceIte, reduceCtorEq, zqf, zqg, zqh]) <;> clear q') | (refine hN _ ?_ ?_ Wk.kk) | (with_reducible refine And.intro ?_ ?_) | (with_reducible omega) | (exact ok_ints) | (exact cells_ints) | (exact no_mem) | (with_reducible exact plain_ints) | (refine le_maxLen ?_; omega) | (refine List.forall_mem_cons.2 ⟨?_, ?_⟩) | (simp only [go_sem, zqc, zqb, List.mem_cons, List.not_mem_nil, forall_eq]; done)))
      all_goals (first | omega | (exact absurd trivial (by assumption)))
    · have hq : ((q : Int) == (m : Int)) = false := beq_eq_false_iff_ne.2 fun h => e (by omega)
      have hI2 : ∀ j, j < i + 1 → ((spT v).getD j (0, 0)).1 ≠ (m : Int) := fun j hj => by
        by_cases e2 : j = i
        · rw [e2, h3]; simp only; omega
        · exact hI j (by omega)
      simp (disch := first | omega | decide +kernel) only [hei, hq, go_sem, zqa, zqb, zqc, zqd, zqe, ↓reduceIte, reduceCtorEq, zqf, zqg, zqh]
      (repeat' (first | ((first | (refine gsel_split (fun q' => ?_) (fun q' => ?_) <;> (have h' := q') <;> (try simp only [decide_eq_true_eq, decide_eq_false_iff_not, zba, zbb, bne_iff_ne, ne_eq, beq_iff_eq, bne_eq_false_iff_eq, beq_eq_false_iff_ne, zia, zib, zic, zid, zda, zbc, zbd, zbe, gt_iff_lt, ge_iff_le] at h') <;> try (exfalso; omega)) | (have q' := trivial; first | refine hE _ _ ret_ne ?_ | refine hE _ _ exit_ne ?_)) <;> (try simp (disch := first | omega | decide +kernel) only [q', hei, hq, go_sem, zqa, zqb, zqc, zqd, zqe, ↓reduceIte, reduceCtorEq, zqf, zqg, zqh]) <;> clear q') | (refine hN _ ?_ ?_ Wk.kk) | (with_reducible refine And.intro ?_ ?_) | (with_reducible omega) | (exact ok_ints) | (exact cells_ints) | (exact no_mem) | (with_reducible exact plain_ints) | (refine le_maxLen ?_; omega) | (refine List.forall_mem_cons.2 ⟨?_, ?_⟩) | (simp only [go_sem, zqc, zqb, List.mem_cons, List.not_mem_nil, forall_eq]; done)))
      all_goals (first | omega | (refine hN () _ hlt hI2 (by refine Wk.auto ?_ ?_ <;> simp [extraK, lk, killL, St.kill, wipeO, wipeS, AV.has, AV.hasL, AO.wipe, List.map_set, updSt, insL, dropS, ins, ]); done))
  · obtain rfl : i = (spT v).length := by omega
    have hz : v.getD m 0 = 0 := by
      by_cases h : v.getD m 0 = 0
      · exact h
      · obtain ⟨j, hj1, hj2⟩ := spT_has h
        exact absurd (by rw [hj2]) (hI j hj1)
    rw [hz] at hE
    simp (disch := first | omega | decide +kernel) only [go_sem, zqa, zqb, zqc, zqd, zqe, ↓reduceIte, reduceCtorEq, zqf, zqg, zqh]
    (repeat' (first | ((first | (refine gsel_split (fun q' => ?_) (fun q' => ?_) <;> (have h' := q') <;> (try simp only [decide_eq_true_eq, decide_eq_false_iff_not, zba, zbb, bne_iff_ne, ne_eq, beq_iff_eq, bne_eq_false_iff_eq, beq_eq_false_iff_ne, zia, zib, zic, zid, zda, zbc, zbd, zbe, gt_iff_lt, ge_iff_le] at h') <;> try (exfalso; omega)) | (have q' := trivial; first | refine hE _ _ ret_ne ?_ | refine hE _ _ exit_ne ?_)) <;> (try simp (disch := first | omega | decide +kernel) only [q', go_sem, zqa, zqb, zqc, zqd, zqe, ↓reduceIte, reduceCtorEq, zqf, zqg, zqh]) <;> clear q') | (refine hN _ ?_ ?_ Wk.kk) | (with_reducible refine And.intro ?_ ?_) | (with_reducible omega) | (exact ok_ints) | (exact cells_ints) | (exact no_mem) | (with_reducible exact plain_ints) | (refine le_maxLen ?_; omega) | (refine List.forall_mem_cons.2 ⟨?_, ?_⟩) | (simp only [go_sem, zqc, zqb, List.mem_cons, List.not_mem_nil, forall_eq]; done)))
    all_goals (first | omega)
theorem l20Inverse_ok {p c : Int} (hp : p = 2 ∨ p = 3 ∨ p = 5) (hc : 0 < c ∧ c < p) : Ctr Try.prog 138 [.int .i64 p, .int .i64 c] false (.d (.int .i64 (invN p c))) [] := by
  obtain ⟨h1, h2, h3, h4⟩ := invN_ok hp hc
  have hp0 : ¬ p = 0 := by omega
  generalize invN p c = k at *
  refine Ctr.of (n := 15) (rs := [.tmp 4]) Try.func138 rfl rfl Try.ntmps138 rfl rfl (by kernel_rfl) Try.checked.mixed ?_
  simp (disch := first | omega | decide +kernel) only [go_sem, zqa, zqb, zqc, zqd, zqe, ↓reduceIte, reduceCtorEq, zqf, zqg, zqh]
  (repeat' (first | ((first | (refine gsel_split (fun q' => ?_) (fun q' => ?_) <;> (have h' := q') <;> (try simp only [decide_eq_true_eq, decide_eq_false_iff_not, zba, zbb, bne_iff_ne, ne_eq, beq_iff_eq, bne_eq_false_iff_eq, beq_eq_false_iff_ne, zia, zib, zic, zid, zda, zbc, zbd, zbe, gt_iff_lt, ge_iff_le] at h') <;> try (exfalso; omega)) | (have q' := trivial; first | refine hE _ _ ret_ne ?_ | refine hE _ _ exit_ne ?_)) <;> (try simp (disch := first | omega | decide +kernel) only [q', go_sem, zqa, zqb, zqc, zqd, zqe, ↓reduceIte, reduceCtorEq, zqf, zqg, zqh]) <;> clear q') | (refine hN _ ?_ ?_ Wk.kk) | (with_reducible refine And.intro ?_ ?_) | (with_reducible omega) | (exact ok_ints) | (exact cells_ints) | (exact no_mem) | (with_reducible exact plain_ints) | (refine le_maxLen ?_; omega) | (refine List.forall_mem_cons.2 ⟨?_, ?_⟩) | (simp only [go_sem, zqc, zqb, List.mem_cons, List.not_mem_nil, forall_eq]; done)))
  refine Ok.loopN [13, 12, 11, 10, 9, 8, 7, 6, 5, 3, 2] (fun i _ => [(5, .d (.int .i64 ((i : Nat) + 1 : Int)))]) (fun _ _ => []) k
    (fun i (_ : Unit) => i < k) () (by omega) (Wk.kk) ?_
  rintro R i ⟨⟩ hN hE hi hI
  have hci : 0 ≤ c * ((i : Int) + 1) ∧ c * ((i : Int) + 1) ≤ 25 := ⟨Int.mul_nonneg (by omega) (by omega), Int.le_trans (Int.mul_le_mul (show c ≤ 5 by omega) (show (i : Int) + 1 ≤ 5 by omega) (by omega) (by decide)) (by decide)⟩
  have em : (c * ((i : Int) + 1)).tmod p = (c * ((i : Int) + 1)) % p := Int.tmod_eq_emod_of_nonneg hci.1
  by_cases e : i + 1 = k
  · have hk : (k : Int) = (i : Int) + 1 := by omega
    rw [hk] at h3 hE
    rw [h3] at em
    simp (disch := first | omega | decide +kernel) only [em, go_sem, zqa, zqb, zqc, zqd, zqe, ↓reduceIte, reduceCtorEq, zqf, zqg, zqh]
    (repeat' (first | ((first | (refine gsel_split (fun q' => ?_) (fun q' => ?_) <;> (have h' := q') <;> (try simp only [decide_eq_true_eq, decide_eq_false_iff_not, zba, zbb, bne_iff_ne, ne_eq, beq_iff_eq, bne_eq_false_iff_eq, beq_eq_false_iff_ne, zia, zib, zic, zid, zda, zbc, zbd, zbe, gt_iff_lt, ge_iff_le] at h') <;> try (exfalso; omega)) | (have q' := trivial; first | refine hE _ _ ret_ne ?_ | refine hE _ _ exit_ne ?_)) <;> (try simp (disch := first | omega | decide +kernel) only [q', em, go_sem, zqa, zqb, zqc, zqd, zqe, ↓reduceIte, reduceCtorEq, zqf, zqg, zqh]) <;> clear q') | (refine hN _ ?_ ?_ Wk.kk) | (with_reducible refine And.intro ?_ ?_) | (with_reducible omega) | (exact ok_ints) | (exact cells_ints) | (exact no_mem) | (with_reducible exact plain_ints) | (refine le_maxLen ?_; omega) | (refine List.forall_mem_cons.2 ⟨?_, ?_⟩) | (simp only [go_sem, zqc, zqb, List.mem_cons, List.not_mem_nil, forall_eq]; done)))
    all_goals (first | (exact absurd trivial (by assumption)) | omega)
  · have h5 := h4 (i + 1) (by omega) (by omega)
    rw [show ((i + 1 : Nat) : Int) = (i : Int) + 1 by omega] at h5
    generalize c * ((i : Int) + 1) % p = r at *
    have hb : (r != 1) = true := bne_iff_ne.2 h5
    simp (disch := first | omega | decide +kernel) only [em, hb, go_sem, zqa, zqb, zqc, zqd, zqe, ↓reduceIte, reduceCtorEq, zqf, zqg, zqh]
    (repeat' (first | ((first | (refine gsel_split (fun q' => ?_) (fun q' => ?_) <;> (have h' := q') <;> (try simp only [decide_eq_true_eq, decide_eq_false_iff_not, zba, zbb, bne_iff_ne, ne_eq, beq_iff_eq, bne_eq_false_iff_eq, beq_eq_false_iff_ne, zia, zib, zic, zid, zda, zbc, zbd, zbe, gt_iff_lt, ge_iff_le] at h') <;> try (exfalso; omega)) | (have q' := trivial; first | refine hE _ _ ret_ne ?_ | refine hE _ _ exit_ne ?_)) <;> (try simp (disch := first | omega | decide +kernel) only [q', em, hb, go_sem, zqa, zqb, zqc, zqd, zqe, ↓reduceIte, reduceCtorEq, zqf, zqg, zqh]) <;> clear q') | (refine hN _ ?_ ?_ Wk.kk) | (with_reducible refine And.intro ?_ ?_) | (with_reducible omega) | (exact ok_ints) | (exact cells_ints) | (exact no_mem) | (with_reducible exact plain_ints) | (refine le_maxLen ?_; omega) | (refine List.forall_mem_cons.2 ⟨?_, ?_⟩) | (simp only [go_sem, zqc, zqb, List.mem_cons, List.not_mem_nil, forall_eq]; done)))
    all_goals (first | omega | (refine hN () _ hI (by omega) (by refine Wk.auto ?_ ?_ <;> simp [extraK, lk, killL, St.kill, wipeO, wipeS, AV.has, AV.hasL, AO.wipe, List.map_set, updSt, insL, dropS, ins, ]); done))
end Abs.Y

namespace Abs.Y
open Go Go.Proofs Abs
open Nat renaming reduceEqDiff → zqa, reduceLT → zqb, reduceAdd → zqc, reduceMul → zqd, reduceSub → zqe, reduceLeDiff → zqf, reduceSubDiff → zqg, reduceBEq → zqh
open Bool renaming not_eq_true' → zba, not_eq_false' → zbb, and_eq_true → zbc, or_eq_true → zbd, or_eq_false_iff → zbe
open Int renaming ofNat_lt → zia, ofNat_le → zib, not_lt → zic, not_le → zid
open Decidable renaming not_not → zda
set_option maxRecDepth 100000

theorem AllV.app {p : Int} {n : Nat} {R l : List (List Int)} (h : AllV p n R) (h' : AllV p n l) : AllV p n (R ++ l) := fun x hx => by
  rcases List.mem_append.1 hx with h1 | h1
  · exact h x h1
  · exact h' x h1
theorem SpEq.trans {p : Int} {n : Nat} {R R' R'' : List (List Int)} (h : SpEq p n R R') (h' : SpEq p n R' R'') : SpEq p n R R'' := fun v => (h v).trans (h' v)
theorem SpEq.symm {p : Int} {n : Nat} {R R' : List (List Int)} (h : SpEq p n R R') : SpEq p n R' R := fun v => (h v).symm
theorem Sp.mono {p : Int} {n : Nat} {R R' : List (List Int)} {v : List Int} (h : ∀ r ∈ R, r ∈ R') (hv : Sp p n R v) : Sp p n R' v := by
  induction hv with
  | zero => exact .zero
  | add k _ hr ih => exact .add k ih (h _ hr)
theorem SpEq.app {p : Int} {n : Nat} (hp : 0 < p) {R R' : List (List Int)} (l : List (List Int)) (hR : AllV p n R) (hR' : AllV p n R') (hl : AllV p n l) (h : SpEq p n R R') : SpEq p n (R ++ l) (R' ++ l) := fun v => by
  constructor
  · refine Sp.trans hp (hR'.app hl) fun r hr => ?_
    rcases List.mem_append.1 hr with h1 | h1
    · exact Sp.mono (fun x hx => List.mem_append.2 (.inl hx)) ((h r).1 (Sp.self hp hR h1))
    · exact Sp.self hp (hR'.app hl) (List.mem_append.2 (.inr h1))
  · refine Sp.trans hp (hR.app hl) fun r hr => ?_
    rcases List.mem_append.1 hr with h1 | h1
    · exact Sp.mono (fun x hx => List.mem_append.2 (.inl hx)) ((h r).2 (Sp.self hp hR' h1))
    · exact Sp.self hp (hR.app hl) (List.mem_append.2 (.inr h1))
structure Keep (p : Int) (u : Nat) (S : Type) where
  rows : S → List (List Int)
  inv : S → Prop
  put : S → List Int → S × Bool
  ech : ∀ s, inv s → Ech p (2 ^ u) ldG (rows s)
  ok : ∀ s a, inv s → Vec p (2 ^ u) a → inv (put s a).1 ∧ SpEq p (2 ^ u) (rows (put s a).1) (rows s ++ [a])
  no : ∀ s a, inv s → Vec p (2 ^ u) a → (put s a).2 = false → (put s a).1 = s
  yes : ∀ s a, inv s → Vec p (2 ^ u) a → (put s a).2 = true → (rows (put s a).1).length = (rows s).length + 1
section
variable {p : Int} {u : Nat} {S : Type} (K : Keep p u S)
def Keep.puts (q : S × Bool) (l : List (List Int)) : S × Bool := l.foldl (fun q a => ((K.put q.1 a).1, q.2 || (K.put q.1 a).2)) q
theorem Keep.puts_snoc (q : S × Bool) (l : List (List Int)) (a : List Int) : K.puts q (l ++ [a]) = ((K.put (K.puts q l).1 a).1, (K.puts q l).2 || (K.put (K.puts q l).1 a).2) := by
  unfold Keep.puts; rw [List.foldl_append]; rfl
theorem Keep.puts_app (q : S × Bool) (l l' : List (List Int)) : K.puts q (l ++ l') = K.puts (K.puts q l) l' := by
  unfold Keep.puts; rw [List.foldl_append]
variable (hp : 1 < p) (hu : u ≤ 6)
include hp
theorem Keep.puts_ok : ∀ (l : List (List Int)) (q : S × Bool), K.inv q.1 → AllV p (2 ^ u) l → K.inv (K.puts q l).1 ∧ SpEq p (2 ^ u) (K.rows (K.puts q l).1) (K.rows q.1 ++ l) ∧
    ((K.puts q l).2 = false → q.2 = false ∧ (K.puts q l).1 = q.1 ∧ ∀ a ∈ l, Sp p (2 ^ u) (K.rows q.1) a) ∧ (K.rows q.1).length ≤ (K.rows (K.puts q l).1).length ∧
    ((K.puts q l).2 = true → q.2 = true ∨ (K.rows q.1).length < (K.rows (K.puts q l).1).length)
  | [], q, h, _ => ⟨h, by rw [List.append_nil]; exact fun v => Iff.rfl, fun e => ⟨e, rfl, fun _ h => (by cases h)⟩, Nat.le_refl _, fun e => .inl e⟩
  | a :: l, q, h, hl => by
    have ha := hl a (by simp)
    have hl' : AllV p (2 ^ u) l := fun x hx => hl x (by simp [hx])
    obtain ⟨k1, k2⟩ := K.ok q.1 a h ha
    have k3 := K.no q.1 a h ha
    have k4 := K.yes q.1 a h ha
    obtain ⟨i1, i2, i3, i4, i5⟩ := Keep.puts_ok l ((K.put q.1 a).1, q.2 || (K.put q.1 a).2) k1 hl'
    have e : K.puts q (a :: l) = K.puts ((K.put q.1 a).1, q.2 || (K.put q.1 a).2) l := rfl
    rw [e]
    have hA := (K.ech q.1 h).vec
    have ha1 : AllV p (2 ^ u) [a] := fun x hx => by rw [List.mem_singleton.1 hx]; exact ha
    have hS : SpEq p (2 ^ u) (K.rows (K.puts ((K.put q.1 a).1, q.2 || (K.put q.1 a).2) l).1) (K.rows q.1 ++ a :: l) := by
      refine i2.trans ?_
      have := SpEq.app (by omega) l (K.ech _ k1).vec (hA.app ha1) hl' k2
      rwa [List.append_assoc, List.singleton_append] at this
    cases hb : (K.put q.1 a).2 with
    | false =>
      have e1 := k3 hb
      simp only [hb, e1, Bool.or_false] at i1 i3 i4 i5 hS ⊢
      refine ⟨i1, hS, fun e => ?_, i4, i5⟩
      obtain ⟨j1, j2, j3⟩ := i3 e
      refine ⟨j1, j2, fun x hx => ?_⟩
      rcases List.mem_cons.1 hx with rfl | hx
      · rw [e1] at k2
        exact (k2 x).2 (Sp.self (by omega) (hA.app ha1) (by simp))
      · exact j3 x hx
    | true =>
      have e1 := k4 hb
      simp only [hb, Bool.or_true] at i1 i3 i4 i5 hS ⊢
      refine ⟨i1, hS, fun e => ?_, by omega, fun _ => .inr (by omega)⟩
      have := (i3 e).1
      cases this
def prodsR (p : Int) (u : Nat) (d : Int) (r : List Int) : List (List Int) := if degD r < d then (List.range u).map (fun v => mulX p u r ((v : Nat) + 1 : Int)) else []
def prods (p : Int) (u : Nat) (d : Int) (rows : List (List Int)) : List (List Int) := rows.flatMap (prodsR p u d)
omit hp in
theorem prods_mem {d : Int} {rows : List (List Int)} {a : List Int} : a ∈ prods p u d rows ↔ ∃ r ∈ rows, degD r < d ∧ ∃ x : Int, 1 ≤ x ∧ x ≤ u ∧ a = mulX p u r x := by
  unfold prods prodsR
  rw [List.mem_flatMap]
  constructor
  · rintro ⟨r, hr, ha⟩
    split at ha
    · rename_i hd
      obtain ⟨v, hv, rfl⟩ := List.mem_map.1 ha
      rw [List.mem_range] at hv
      exact ⟨r, hr, hd, (v : Int) + 1, by omega, by omega, rfl⟩
    · cases ha
  · rintro ⟨r, hr, hd, x, h1, h2, rfl⟩
    refine ⟨r, hr, ?_⟩
    rw [if_pos hd]
    exact List.mem_map.2 ⟨(x - 1).toNat, List.mem_range.2 (by omega), by rw [show (((x - 1).toNat : Nat) : Int) + 1 = x by omega]⟩
theorem prods_vec (d : Int) (rows : List (List Int)) : AllV p (2 ^ u) (prods p u d rows) := fun a ha => by
  obtain ⟨r, _, _, x, _, _, rfl⟩ := prods_mem.1 ha
  exact Vec.mulD (by omega) _ _ _
def Keep.round (d : Int) (s : S) : S × Bool := K.puts (s, false) (prods p u d (K.rows s))
def clausesD (p : Int) (u : Nat) (d : Int) (cs : List (List Int)) : List (List Int) := (cs.filter fun c => decide ((c.length : Int) ≤ d)).map (clauseD p u)
theorem clausesD_vec (d : Int) (cs : List (List Int)) : AllV p (2 ^ u) (clausesD p u d cs) := fun a ha => by
  obtain ⟨c, _, rfl⟩ := List.mem_map.1 ha
  exact Vec.clause hp u c
def Keep.base (cs : List (List Int)) (d : Int) (s : S) : S := (K.puts (s, false) (clausesD p u d cs)).1
def Keep.it (d : Int) (s : S) : Nat → S × Bool
  | 0 => (s, true)
  | i + 1 => K.round d (Keep.it d s i).1
theorem Keep.it_inv {d : Int} {s : S} (h : K.inv s) : ∀ i, K.inv (K.it d s i).1
  | 0 => h
  | i + 1 => (K.puts_ok hp _ (_, false) (Keep.it_inv h i) (prods_vec hp d _)).1
theorem Keep.it_stop {d : Int} {s : S} (h : K.inv s) {i : Nat} (hi : (K.it d s i).2 = false) : K.it d s (i + 1) = K.it d s i := by
  cases i with
  | zero => cases hi
  | succ i =>
    have h1 := (K.puts_ok hp _ ((K.it d s i).1, false) (K.it_inv hp h i) (prods_vec hp d (K.rows (K.it d s i).1))).2.2.1 hi
    have e : (K.it d s (i + 1)).1 = (K.it d s i).1 := h1.2.1
    show K.round d (K.it d s (i + 1)).1 = K.round d (K.it d s i).1
    rw [e]
theorem Keep.it_len {d : Int} {s : S} (h : K.inv s) : ∀ i, (K.it d s i).2 = true → i ≤ (K.rows (K.it d s i).1).length
  | 0, _ => Nat.zero_le _
  | i + 1, hi => by
    have h1 := (K.puts_ok hp _ ((K.it d s i).1, false) (K.it_inv hp h i) (prods_vec hp d (K.rows (K.it d s i).1))).2.2.2.2 hi
    have h2 : (K.it d s i).2 = true := by
      cases hb : (K.it d s i).2 with
      | true => rfl
      | false =>
        rw [K.it_stop hp h hb, hb] at hi
        cases hi
    have h3 := Keep.it_len h i h2
    rcases h1 with h1 | h1
    · cases h1
    · change (K.rows (K.it d s i).1).length < (K.rows (K.it d s (i + 1)).1).length at h1
      omega
theorem Keep.it_same {d : Int} {s : S} (h : K.inv s) {i : Nat} (hi : (K.it d s i).2 = false) : ∀ j, K.it d s (i + j) = K.it d s i
  | 0 => rfl
  | j + 1 => by
    have ih := Keep.it_same h hi j
    rw [← Nat.add_assoc, K.it_stop hp h (by rw [ih]; exact hi), ih]
include hu
theorem Keep.it_bd {d : Int} {s : S} (h : K.inv s) {i : Nat} (hi : (K.it d s i).2 = true) : i ≤ 64 := by
  have h1 := K.it_len hp h i hi
  have h2 := pow_le6 hu
  have h3 := ech_bd h2 (K.ech _ (K.it_inv hp h (d := d) i))
  omega
theorem Keep.it_65 {d : Int} {s : S} (h : K.inv s) : (K.it d s 65).2 = false := by
  cases hb : (K.it d s 65).2 with
  | false => rfl
  | true => exact absurd (K.it_bd hp hu h hb) (by decide)
theorem Keep.it_end {d : Int} {s : S} (h : K.inv s) {i : Nat} (hi : (K.it d s i).2 = false) : (K.it d s i).1 = (K.it d s 65).1 := by
  by_cases hle : i ≤ 65
  · have := K.it_same hp h hi (65 - i)
    rw [show i + (65 - i) = 65 by omega] at this
    rw [this]
  · have := K.it_same hp h (K.it_65 hp hu h (d := d)) (i - 65)
    rw [show 65 + (i - 65) = i by omega] at this
    rw [this]
def Keep.fin (cs : List (List Int)) (d : Int) (s : S) : S := (K.it d (K.base cs d s) 65).1
theorem Keep.fin_ok {cs : List (List Int)} {d : Int} {s : S} (h : K.inv s) (h0 : K.rows s = []) : K.inv (K.fin cs d s) ∧ ∀ v, Sp p (2 ^ u) (K.rows (K.fin cs d s)) v ↔ Mn p u cs d v := by
  obtain ⟨b1, b2, _⟩ := K.puts_ok hp _ (s, false) h (clausesD_vec hp d cs)
  have hb : K.inv (K.base cs d s) := b1
  have hbS : SpEq p (2 ^ u) (K.rows (K.base cs d s)) (clausesD p u d cs) := by
    have : SpEq p (2 ^ u) (K.rows (K.base cs d s)) (K.rows s ++ clausesD p u d cs) := b2
    rwa [h0, List.nil_append] at this
  have hinv := fun i => K.it_inv hp hb (d := d) i
  have hstep : ∀ i, SpEq p (2 ^ u) (K.rows (K.it d (K.base cs d s) (i + 1)).1) (K.rows (K.it d (K.base cs d s) i).1 ++ prods p u d (K.rows (K.it d (K.base cs d s) i).1)) := fun i => (K.puts_ok hp _ ((K.it d (K.base cs d s) i).1, false) (hinv i) (prods_vec hp d _)).2.1
  have hmn : ∀ i, ∀ r ∈ K.rows (K.it d (K.base cs d s) i).1, Mn p u cs d r := by
    intro i
    induction i with
    | zero =>
      intro r hr
      refine mn_sp (by omega) (clausesD_vec hp d cs) (fun c hc => ?_) ((hbS r).1 (Sp.self (by omega) (K.ech _ hb).vec hr))
      obtain ⟨x, hx, rfl⟩ := List.mem_map.1 hc
      obtain ⟨hx1, hx2⟩ := List.mem_filter.1 hx
      exact fun W hW => hW.cl x hx1 (by simpa using hx2)
    | succ i ih =>
      intro r hr
      have hv := (K.ech _ (hinv i)).vec
      refine mn_sp (by omega) (hv.app (prods_vec hp d _)) (fun c hc => ?_) ((hstep i r).1 (Sp.self (by omega) (K.ech _ (hinv (i + 1))).vec hr))
      rcases List.mem_append.1 hc with hc | hc
      · exact ih c hc
      · obtain ⟨q, hq, hd, x, h1, h2, rfl⟩ := prods_mem.1 hc
        exact fun W hW => hW.mul q (hv q hq) (ih q hq W hW) hd x h1 h2
  have hcl : ∀ i, ∀ c ∈ cs, (c.length : Int) ≤ d → Sp p (2 ^ u) (K.rows (K.it d (K.base cs d s) i).1) (clauseD p u c) := by
    intro i
    induction i with
    | zero =>
      intro c hc hd
      exact (hbS _).2 (Sp.self (by omega) (clausesD_vec hp d cs) (List.mem_map_of_mem (List.mem_filter.2 ⟨hc, by simpa using hd⟩)))
    | succ i ih =>
      intro c hc hd
      exact (hstep i _).2 (Sp.mono (fun x hx => List.mem_append.2 (.inl hx)) (ih c hc hd))
  refine ⟨hinv 65, sp_least hp hu (K.ech _ (hinv 65)) (hmn 65) (hcl 65) fun r hr hd x h1 h2 => ?_⟩
  have h65 := K.it_65 hp hu hb (d := d)
  have hs := (K.puts_ok hp _ ((K.it d (K.base cs d s) 65).1, false) (hinv 65) (prods_vec hp d (K.rows (K.it d (K.base cs d s) 65).1))).2.2.1 (by
    have : K.it d (K.base cs d s) 66 = K.it d (K.base cs d s) 65 := K.it_stop hp hb h65
    change (K.it d (K.base cs d s) 66).2 = false
    rw [this]; exact h65)
  exact hs.2.2 _ (prods_mem.2 ⟨r, hr, hd, x, h1, h2, rfl⟩)
end
def Closed (p : Int) (u : Nat) (d : Int) (R : List (List Int)) : Prop := ∀ a ∈ prods p u d R, Sp p (2 ^ u) R a
end Abs.Y
