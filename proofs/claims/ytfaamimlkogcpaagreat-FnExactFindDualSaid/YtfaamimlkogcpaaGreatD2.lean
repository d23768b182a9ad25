/- What functions of this program compute, as contracts over plain data, with what the proofs need of them. No condition. -/
import Derived.Test.YtfaamimlkogcpaaGreatA3
import Derived.Test.YtfaamimlkogcpaaGreatE0
set_option linter.all false
namespace Abs.Y
open Go Go.Proofs Abs
open Nat renaming reduceEqDiff → zqa, reduceLT → zqb, reduceAdd → zqc, reduceMul → zqd, reduceSub → zqe, reduceLeDiff → zqf, reduceSubDiff → zqg, reduceBEq → zqh
open Bool renaming not_eq_true' → zba, not_eq_false' → zbb, and_eq_true → zbc, or_eq_true → zbd, or_eq_false_iff → zbe
open Int renaming ofNat_lt → zia, ofNat_le → zib, not_lt → zic, not_le → zid
open Decidable renaming not_not → zda
set_option maxRecDepth 100000

def cmpM (m n : Nat) : Int := orI (cmpI (cnt m) (cnt n)) (cmpI m n)
theorem cmpI_or (x y : Int) : (x < y ∧ cmpI x y = -1) ∨ (y < x ∧ cmpI x y = 1) ∨ (x = y ∧ cmpI x y = 0) := by
  unfold cmpI
  by_cases h : x < y
  · exact .inl ⟨h, if_pos h⟩
  · by_cases h2 : y < x
    · exact .inr (.inl ⟨h2, by rw [if_neg h, if_pos h2]⟩)
    · exact .inr (.inr ⟨by omega, by rw [if_neg h, if_neg h2]⟩)
theorem cmpM_pos {m n : Nat} (hm : m < 64) (hn : n < 64) : 0 < cmpM m n ↔ kG n < kG m := by
  rw [kG_lt hn hm]
  unfold cmpM orI
  rcases cmpI_or (cnt m) (cnt n) with ⟨h1, h2⟩ | ⟨h1, h2⟩ | ⟨h1, h2⟩
  · rw [h2, if_pos (by decide)]; constructor <;> intro h <;> omega
  · rw [h2, if_pos (by decide)]; constructor <;> intro h <;> omega
  · rw [h2, if_neg (by decide)]
    rcases cmpI_or m n with ⟨h3, h4⟩ | ⟨h3, h4⟩ | ⟨h3, h4⟩ <;> rw [h4] <;> constructor <;> intro h <;> omega
theorem compareMonos_ok {m n : Nat} (hm : m < 64) (hn : n < 64) : Ctr Tryz.prog 31 [.int .i64 m, .int .i64 n] false (.d (.int .i64 (cmpM m n))) [] := by
  have c1 := degreeOf_ok hm
  have c2 := degreeOf_ok hn
  have c3 := compare_ok (cnt m) (cnt n)
  have c4 := compare_ok m n
  have c5 := or_ok (cmpI (cnt m) (cnt n)) (cmpI m n)
  unfold cmpM
  have hk1 := cnt_le m
  have hk2 := cnt_le n
  generalize cnt m = a at *
  generalize cnt n = b at *
  refine Ctr.of (n := 15) (rs := [.tmp 4]) Tryz.func31 rfl rfl Tryz.ntmps31 rfl rfl (by kernel_rfl) Tryz.checked.mixed ?_
  simp (disch := first | omega | decide +kernel) only [go_sem, zqa, zqb, zqc, zqd, zqe, ↓reduceIte, reduceCtorEq, zqf, zqg, zqh]
  (repeat' (first | ((first | (refine gsel_split (fun q' => ?_) (fun q' => ?_) <;> (have h' := q') <;> (try simp only [decide_eq_true_eq, decide_eq_false_iff_not, zba, zbb, bne_iff_ne, ne_eq, beq_iff_eq, bne_eq_false_iff_eq, beq_eq_false_iff_ne, zia, zib, zic, zid, zda, zbc, zbd, zbe, gt_iff_lt, ge_iff_le] at h') <;> try (exfalso; omega)) | (have q' := trivial; first | refine callX_new (c1) rfl (by decide) ?_ | refine callY_new (c1) rfl ?_ | refine callX_new (c2) rfl (by decide) ?_ | refine callY_new (c2) rfl ?_ | refine callX_new (c3) rfl (by decide) ?_ | refine callY_new (c3) rfl ?_ | refine callX_new (c4) rfl (by decide) ?_ | refine callY_new (c4) rfl ?_ | refine callX_new (c5) rfl (by decide) ?_ | refine callY_new (c5) rfl ?_ | refine hE _ _ ret_ne ?_ | refine hE _ _ exit_ne ?_)) <;> (try simp (disch := first | omega | decide +kernel) only [q', go_sem, zqa, zqb, zqc, zqd, zqe, ↓reduceIte, reduceCtorEq, zqf, zqg, zqh]) <;> clear q') | (refine hN _ ?_ ?_ Wk.kk) | (with_reducible refine And.intro ?_ ?_) | (with_reducible omega) | (exact ok_ints) | (exact cells_ints) | (exact no_mem) | (with_reducible exact plain_ints) | (refine le_maxLen ?_; omega) | (refine List.forall_mem_cons.2 ⟨?_, ?_⟩) | (simp only [go_sem, zqc, zqb, List.mem_cons, List.not_mem_nil, forall_eq]; done)))
  all_goals (first | omega | rfl)
set_option maxHeartbeats 4000000 in
theorem leading_ok {v : List Int} (hl : v.length ≤ 64) : Ctr Tryz.prog 32 [.ints v] false (.d (.int .i64 (ldI v))) [] := by
  refine Ctr.of (n := 28) (rs := [.tmp 2]) Tryz.func32 rfl rfl Tryz.ntmps32 rfl rfl (by kernel_rfl) Tryz.checked.mixed ?_
  simp (disch := first | omega | decide +kernel) only [D.ints, go_sem, zqa, zqb, zqc, zqd, zqe, ↓reduceIte, reduceCtorEq, zqf, zqg, zqh]
  (repeat' (first | ((first | (refine gsel_split (fun q' => ?_) (fun q' => ?_) <;> (have h' := q') <;> (try simp only [decide_eq_true_eq, decide_eq_false_iff_not, zba, zbb, bne_iff_ne, ne_eq, beq_iff_eq, bne_eq_false_iff_eq, beq_eq_false_iff_ne, zia, zib, zic, zid, zda, zbc, zbd, zbe, gt_iff_lt, ge_iff_le] at h') <;> try (exfalso; omega)) | (have q' := trivial; first | refine hE _ _ ret_ne ?_ | refine hE _ _ exit_ne ?_)) <;> (try simp (disch := first | omega | decide +kernel) only [q', D.ints, go_sem, zqa, zqb, zqc, zqd, zqe, ↓reduceIte, reduceCtorEq, zqf, zqg, zqh]) <;> clear q') | (refine hN _ ?_ ?_ Wk.kk) | (with_reducible refine And.intro ?_ ?_) | (with_reducible omega) | (exact ok_ints) | (exact cells_ints) | (exact no_mem) | (with_reducible exact plain_ints) | (refine le_maxLen ?_; omega) | (refine List.forall_mem_cons.2 ⟨?_, ?_⟩) | (simp only [go_sem, zqc, zqb, List.mem_cons, List.not_mem_nil, forall_eq]; done)))
  refine Ok.loopN [26, 25, 24, 23, 22, 21, 20, 19, 18, 17, 16, 15, 14, 13, 12, 11, 10, 9, 8, 5, 4, 3, 1, 0] (fun i d => [(8, .d (.int .i64 (i : Nat))), (3, .d (.int .i64 d))]) (fun _ _ => []) v.length
    (fun i (o : Int) => o = (List.range i).foldl (fun o m => if v.getD m 0 ≠ 0 ∧ (o < 0 ∨ kG o.toNat < kG m) then (m : Int) else o) (-1)) (-1) rfl (Wk.kk) ?_
  rintro R i o hN hE hi ho
  by_cases hlt : i < v.length
  · have hs : (List.range (i + 1)).foldl (fun o m => if v.getD m 0 ≠ 0 ∧ (o < 0 ∨ kG o.toNat < kG m) then (m : Int) else o) (-1) = if v.getD i 0 ≠ 0 ∧ (o < 0 ∨ kG o.toNat < kG i) then (i : Int) else o := by
      rw [List.range_succ, List.foldl_append, ← ho]; rfl
    have hinv := ldI_inv v i
    rw [← ho] at hinv
    clear ho
    by_cases hz : v.getD i 0 = 0
    · rw [if_neg (fun h => h.1 hz)] at hs
      have hb : (v.getD i 0 != 0) = false := by rw [hz]; rfl
      simp (disch := first | omega | decide +kernel) only [hb, go_sem, zqa, zqb, zqc, zqd, zqe, ↓reduceIte, reduceCtorEq, zqf, zqg, zqh]
      (repeat' (first | ((first | (refine gsel_split (fun q' => ?_) (fun q' => ?_) <;> (have h' := q') <;> (try simp only [decide_eq_true_eq, decide_eq_false_iff_not, zba, zbb, bne_iff_ne, ne_eq, beq_iff_eq, bne_eq_false_iff_eq, beq_eq_false_iff_ne, zia, zib, zic, zid, zda, zbc, zbd, zbe, gt_iff_lt, ge_iff_le] at h') <;> try (exfalso; omega)) | (have q' := trivial; first | refine hE _ _ ret_ne ?_ | refine hE _ _ exit_ne ?_)) <;> (try simp (disch := first | omega | decide +kernel) only [q', hb, go_sem, zqa, zqb, zqc, zqd, zqe, ↓reduceIte, reduceCtorEq, zqf, zqg, zqh]) <;> clear q') | (refine hN _ ?_ ?_ Wk.kk) | (with_reducible refine And.intro ?_ ?_) | (with_reducible omega) | (exact ok_ints) | (exact cells_ints) | (exact no_mem) | (with_reducible exact plain_ints) | (refine le_maxLen ?_; omega) | (refine List.forall_mem_cons.2 ⟨?_, ?_⟩) | (simp only [go_sem, zqc, zqb, List.mem_cons, List.not_mem_nil, forall_eq]; done)))
      all_goals (first | omega | (refine hN o _ hlt hs.symm (by refine Wk.auto ?_ ?_ <;> simp [extraK, lk, killL, St.kill, wipeO, wipeS, AV.has, AV.hasL, AO.wipe, List.map_set, updSt, insL, dropS, ins, ]); done))
    · have hb : (v.getD i 0 != 0) = true := bne_iff_ne.2 hz
      rcases hinv with ⟨rfl, _⟩ | ⟨m, rfl, hm, _⟩
      · rw [if_pos ⟨hz, .inl (by decide)⟩] at hs
        simp (disch := first | omega | decide +kernel) only [hb, go_sem, zqa, zqb, zqc, zqd, zqe, ↓reduceIte, reduceCtorEq, zqf, zqg, zqh]
        (repeat' (first | ((first | (refine gsel_split (fun q' => ?_) (fun q' => ?_) <;> (have h' := q') <;> (try simp only [decide_eq_true_eq, decide_eq_false_iff_not, zba, zbb, bne_iff_ne, ne_eq, beq_iff_eq, bne_eq_false_iff_eq, beq_eq_false_iff_ne, zia, zib, zic, zid, zda, zbc, zbd, zbe, gt_iff_lt, ge_iff_le] at h') <;> try (exfalso; omega)) | (have q' := trivial; first | refine hE _ _ ret_ne ?_ | refine hE _ _ exit_ne ?_)) <;> (try simp (disch := first | omega | decide +kernel) only [q', hb, go_sem, zqa, zqb, zqc, zqd, zqe, ↓reduceIte, reduceCtorEq, zqf, zqg, zqh]) <;> clear q') | (refine hN _ ?_ ?_ Wk.kk) | (with_reducible refine And.intro ?_ ?_) | (with_reducible omega) | (exact ok_ints) | (exact cells_ints) | (exact no_mem) | (with_reducible exact plain_ints) | (refine le_maxLen ?_; omega) | (refine List.forall_mem_cons.2 ⟨?_, ?_⟩) | (simp only [go_sem, zqc, zqb, List.mem_cons, List.not_mem_nil, forall_eq]; done)))
        all_goals (first | omega | (refine hN (i : Int) _ hlt hs.symm (by refine Wk.auto ?_ ?_ <;> simp [extraK, lk, killL, St.kill, wipeO, wipeS, AV.has, AV.hasL, AO.wipe, List.map_set, updSt, insL, dropS, ins, ]); done))
      · have c1 := compareMonos_ok (m := i) (n := m) (by omega) (by omega)
        have hcm := cmpM_pos (m := i) (n := m) (by omega) (by omega)
        generalize cmpM i m = z at *
        by_cases hk : 0 < z
        · rw [if_pos ⟨hz, .inr (by simpa using hcm.1 hk)⟩] at hs
          simp (disch := first | omega | decide +kernel) only [hb, go_sem, zqa, zqb, zqc, zqd, zqe, ↓reduceIte, reduceCtorEq, zqf, zqg, zqh]
          (repeat' (first | ((first | (refine gsel_split (fun q' => ?_) (fun q' => ?_) <;> (have h' := q') <;> (try simp only [decide_eq_true_eq, decide_eq_false_iff_not, zba, zbb, bne_iff_ne, ne_eq, beq_iff_eq, bne_eq_false_iff_eq, beq_eq_false_iff_ne, zia, zib, zic, zid, zda, zbc, zbd, zbe, gt_iff_lt, ge_iff_le] at h') <;> try (exfalso; omega)) | (have q' := trivial; first | refine callX_new (c1) rfl (by decide) ?_ | refine callY_new (c1) rfl ?_ | refine hE _ _ ret_ne ?_ | refine hE _ _ exit_ne ?_)) <;> (try simp (disch := first | omega | decide +kernel) only [q', hb, go_sem, zqa, zqb, zqc, zqd, zqe, ↓reduceIte, reduceCtorEq, zqf, zqg, zqh]) <;> clear q') | (refine hN _ ?_ ?_ Wk.kk) | (with_reducible refine And.intro ?_ ?_) | (with_reducible omega) | (exact ok_ints) | (exact cells_ints) | (exact no_mem) | (with_reducible exact plain_ints) | (refine le_maxLen ?_; omega) | (refine List.forall_mem_cons.2 ⟨?_, ?_⟩) | (simp only [go_sem, zqc, zqb, List.mem_cons, List.not_mem_nil, forall_eq]; done)))
          all_goals (first | omega | (refine hN (i : Int) _ hlt hs.symm (by refine Wk.auto ?_ ?_ <;> simp [extraK, lk, killL, St.kill, wipeO, wipeS, AV.has, AV.hasL, AO.wipe, List.map_set, updSt, insL, dropS, ins, ]); done))
        · rw [if_neg (fun h => by
            rcases h.2 with h | h
            · omega
            · exact hk (hcm.2 (by simpa using h)))] at hs
          simp (disch := first | omega | decide +kernel) only [hb, go_sem, zqa, zqb, zqc, zqd, zqe, ↓reduceIte, reduceCtorEq, zqf, zqg, zqh]
          (repeat' (first | ((first | (refine gsel_split (fun q' => ?_) (fun q' => ?_) <;> (have h' := q') <;> (try simp only [decide_eq_true_eq, decide_eq_false_iff_not, zba, zbb, bne_iff_ne, ne_eq, beq_iff_eq, bne_eq_false_iff_eq, beq_eq_false_iff_ne, zia, zib, zic, zid, zda, zbc, zbd, zbe, gt_iff_lt, ge_iff_le] at h') <;> try (exfalso; omega)) | (have q' := trivial; first | refine callX_new (c1) rfl (by decide) ?_ | refine callY_new (c1) rfl ?_ | refine hE _ _ ret_ne ?_ | refine hE _ _ exit_ne ?_)) <;> (try simp (disch := first | omega | decide +kernel) only [q', hb, go_sem, zqa, zqb, zqc, zqd, zqe, ↓reduceIte, reduceCtorEq, zqf, zqg, zqh]) <;> clear q') | (refine hN _ ?_ ?_ Wk.kk) | (with_reducible refine And.intro ?_ ?_) | (with_reducible omega) | (exact ok_ints) | (exact cells_ints) | (exact no_mem) | (with_reducible exact plain_ints) | (refine le_maxLen ?_; omega) | (refine List.forall_mem_cons.2 ⟨?_, ?_⟩) | (simp only [go_sem, zqc, zqb, List.mem_cons, List.not_mem_nil, forall_eq]; done)))
          all_goals (first | omega | (refine hN (m : Int) _ hlt hs.symm (by refine Wk.auto ?_ ?_ <;> simp [extraK, lk, killL, St.kill, wipeO, wipeS, AV.has, AV.hasL, AO.wipe, List.map_set, updSt, insL, dropS, ins, ]); done))
  · obtain rfl : i = v.length := by omega
    have hd2 : o = ldI v := ho
    rw [← hd2] at hE
    simp (disch := first | omega | decide +kernel) only [go_sem, zqa, zqb, zqc, zqd, zqe, ↓reduceIte, reduceCtorEq, zqf, zqg, zqh]
    (repeat' (first | ((first | (refine gsel_split (fun q' => ?_) (fun q' => ?_) <;> (have h' := q') <;> (try simp only [decide_eq_true_eq, decide_eq_false_iff_not, zba, zbb, bne_iff_ne, ne_eq, beq_iff_eq, bne_eq_false_iff_eq, beq_eq_false_iff_ne, zia, zib, zic, zid, zda, zbc, zbd, zbe, gt_iff_lt, ge_iff_le] at h') <;> try (exfalso; omega)) | (have q' := trivial; first | refine hE _ _ ret_ne ?_ | refine hE _ _ exit_ne ?_)) <;> (try simp (disch := first | omega | decide +kernel) only [q', go_sem, zqa, zqb, zqc, zqd, zqe, ↓reduceIte, reduceCtorEq, zqf, zqg, zqh]) <;> clear q') | (refine hN _ ?_ ?_ Wk.kk) | (with_reducible refine And.intro ?_ ?_) | (with_reducible omega) | (exact ok_ints) | (exact cells_ints) | (exact no_mem) | (with_reducible exact plain_ints) | (refine le_maxLen ?_; omega) | (refine List.forall_mem_cons.2 ⟨?_, ?_⟩) | (simp only [go_sem, zqc, zqb, List.mem_cons, List.not_mem_nil, forall_eq]; done)))
    all_goals (first | omega)
theorem inverse_ok {p c : Int} {u : Nat} (hp : p = 2 ∨ p = 3 ∨ p = 5) (hc : 0 < c ∧ c < p) : Ctr Tryz.prog 69 [D.ring p u, .int .i64 c] false (.d (.int .i64 (invN p c))) [] := by
  obtain ⟨h1, h2, h3, h4⟩ := invN_ok hp hc
  have hp0 : ¬ p = 0 := by omega
  generalize invN p c = k at *
  refine Ctr.of (n := 16) (rs := [.tmp 4]) Tryz.func69 rfl rfl Tryz.ntmps69 rfl rfl (by kernel_rfl) Tryz.checked.mixed ?_
  simp (disch := first | omega | decide +kernel) only [go_sem, zqa, zqb, zqc, zqd, zqe, ↓reduceIte, reduceCtorEq, zqf, zqg, zqh]
  (repeat' (first | ((first | (refine gsel_split (fun q' => ?_) (fun q' => ?_) <;> (have h' := q') <;> (try simp only [decide_eq_true_eq, decide_eq_false_iff_not, zba, zbb, bne_iff_ne, ne_eq, beq_iff_eq, bne_eq_false_iff_eq, beq_eq_false_iff_ne, zia, zib, zic, zid, zda, zbc, zbd, zbe, gt_iff_lt, ge_iff_le] at h') <;> try (exfalso; omega)) | (have q' := trivial; first | refine hE _ _ ret_ne ?_ | refine hE _ _ exit_ne ?_)) <;> (try simp (disch := first | omega | decide +kernel) only [q', go_sem, zqa, zqb, zqc, zqd, zqe, ↓reduceIte, reduceCtorEq, zqf, zqg, zqh]) <;> clear q') | (refine hN _ ?_ ?_ Wk.kk) | (with_reducible refine And.intro ?_ ?_) | (with_reducible omega) | (exact ok_ints) | (exact cells_ints) | (exact no_mem) | (with_reducible exact plain_ints) | (refine le_maxLen ?_; omega) | (refine List.forall_mem_cons.2 ⟨?_, ?_⟩) | (simp only [go_sem, zqc, zqb, List.mem_cons, List.not_mem_nil, forall_eq]; done)))
  refine Ok.loopN [15, 14, 13, 12, 11, 10, 9, 8, 7, 6, 5, 4, 3, 0] (fun i _ => [(5, .d (.int .i64 ((i : Nat) + 1 : Int)))]) (fun _ _ => []) k
    (fun i (_ : Unit) => i < k) () (by omega) (Wk.kk) ?_
  rintro R i ⟨⟩ hN hE hi hI
  have hci : 0 ≤ c * ((i : Int) + 1) ∧ c * ((i : Int) + 1) ≤ 25 := ⟨Int.mul_nonneg (by omega) (by omega), Int.le_trans (Int.mul_le_mul (show c ≤ 5 by omega) (show (i : Int) + 1 ≤ 5 by omega) (by omega) (by decide)) (by decide)⟩
  have em : (c * ((i : Int) + 1)).tmod p = (c * ((i : Int) + 1)) % p := Int.tmod_eq_emod_of_nonneg hci.1
  by_cases e : i + 1 = k
  · have hk : (k : Int) = (i : Int) + 1 := by omega
    rw [hk] at h3 hE
    rw [h3] at em
    simp (disch := first | omega | decide +kernel) only [em, go_sem, zqa, zqb, zqc, zqd, zqe, ↓reduceIte, reduceCtorEq, zqf, zqg, zqh]
    (repeat' (first | ((first | (refine gsel_split (fun q' => ?_) (fun q' => ?_) <;> (have h' := q') <;> (try simp only [decide_eq_true_eq, decide_eq_false_iff_not, zba, zbb, bne_iff_ne, ne_eq, beq_iff_eq, bne_eq_false_iff_eq, beq_eq_false_iff_ne, zia, zib, zic, zid, zda, zbc, zbd, zbe, gt_iff_lt, ge_iff_le] at h') <;> try (exfalso; omega)) | (have q' := trivial; first | refine hE _ _ ret_ne ?_ | refine hE _ _ exit_ne ?_)) <;> (try simp (disch := first | omega | decide +kernel) only [q', em, go_sem, zqa, zqb, zqc, zqd, zqe, ↓reduceIte, reduceCtorEq, zqf, zqg, zqh]) <;> clear q') | (refine hN _ ?_ ?_ Wk.kk) | (with_reducible refine And.intro ?_ ?_) | (with_reducible omega) | (exact ok_ints) | (exact cells_ints) | (exact no_mem) | (with_reducible exact plain_ints) | (refine le_maxLen ?_; omega) | (refine List.forall_mem_cons.2 ⟨?_, ?_⟩) | (simp only [go_sem, zqc, zqb, List.mem_cons, List.not_mem_nil, forall_eq]; done)))
    all_goals (first | omega)
  · have h5 := h4 (i + 1) (by omega) (by omega)
    rw [show ((i + 1 : Nat) : Int) = (i : Int) + 1 by omega] at h5
    generalize c * ((i : Int) + 1) % p = r at *
    have hb : (r == 1) = false := by simpa using h5
    simp (disch := first | omega | decide +kernel) only [em, hb, go_sem, zqa, zqb, zqc, zqd, zqe, ↓reduceIte, reduceCtorEq, zqf, zqg, zqh]
    (repeat' (first | ((first | (refine gsel_split (fun q' => ?_) (fun q' => ?_) <;> (have h' := q') <;> (try simp only [decide_eq_true_eq, decide_eq_false_iff_not, zba, zbb, bne_iff_ne, ne_eq, beq_iff_eq, bne_eq_false_iff_eq, beq_eq_false_iff_ne, zia, zib, zic, zid, zda, zbc, zbd, zbe, gt_iff_lt, ge_iff_le] at h') <;> try (exfalso; omega)) | (have q' := trivial; first | refine hE _ _ ret_ne ?_ | refine hE _ _ exit_ne ?_)) <;> (try simp (disch := first | omega | decide +kernel) only [q', em, hb, go_sem, zqa, zqb, zqc, zqd, zqe, ↓reduceIte, reduceCtorEq, zqf, zqg, zqh]) <;> clear q') | (refine hN _ ?_ ?_ Wk.kk) | (with_reducible refine And.intro ?_ ?_) | (with_reducible omega) | (exact ok_ints) | (exact cells_ints) | (exact no_mem) | (with_reducible exact plain_ints) | (refine le_maxLen ?_; omega) | (refine List.forall_mem_cons.2 ⟨?_, ?_⟩) | (simp only [go_sem, zqc, zqb, List.mem_cons, List.not_mem_nil, forall_eq]; done)))
    all_goals (first | omega | (refine hN () _ hI (by omega) (by refine Wk.auto ?_ ?_ <;> simp [extraK, lk, killL, St.kill, wipeO, wipeS, AV.has, AV.hasL, AO.wipe, List.map_set, updSt, insL, dropS, ins, ]); done))
end Abs.Y

namespace Abs.Y
open Go Go.Proofs Abs
open Nat renaming reduceEqDiff → zqa, reduceLT → zqb, reduceAdd → zqc, reduceMul → zqd, reduceSub → zqe, reduceLeDiff → zqf, reduceSubDiff → zqg, reduceBEq → zqh
open Bool renaming not_eq_true' → zba, not_eq_false' → zbb, and_eq_true → zbc, or_eq_true → zbd, or_eq_false_iff → zbe
open Int renaming ofNat_lt → zia, ofNat_le → zib, not_lt → zic, not_le → zid
open Decidable renaming not_not → zda
set_option maxRecDepth 100000

@[reducible] def D.ech (p : Int) (u : Nat) (R M : List (List Int)) (many : Nat) : D := .agg [.int .i64 p, .int .i64 u, .slice (R.map D.ints), .slice (M.map D.ints), .int .i64 many]
def addM (p c : Int) (x m : List Int) : List Int := (List.range m.length).foldl (fun x k => stP p x k (c * m.getD k 0)) x
def redP (p : Int) (R M : List (List Int)) (s : List Int × List Int) (i : Nat) : List Int × List Int :=
  if s.1.getD (ldG (R.getD i [])) 0 = 0 then s else (addD p (p - s.1.getD (ldG (R.getD i [])) 0) s.1 (R.getD i []), addM p (s.1.getD (ldG (R.getD i [])) 0) s.2 (M.getD i []))
def redQ (p : Int) (R M : List (List Int)) (a : List Int) (many k : Nat) : List Int × List Int := (List.range k).foldl (redP p R M) (a, List.replicate many 0)
theorem redQ_succ (p : Int) (R M : List (List Int)) (a : List Int) (many k : Nat) : redQ p R M a many (k + 1) = redP p R M (redQ p R M a many k) k := by
  rw [redQ, List.range_succ, List.foldl_append]; rfl
theorem addM_vec {p : Int} (hp : 0 < p) {n : Nat} (c : Int) {x : List Int} (hx : Vec p n x) (m : List Int) : Vec p n (addM p c x m) := fold_vec (fun v k h => h.st hp _ _) _ hx
theorem redQ_vec {p : Int} (hp : 0 < p) {n many : Nat} {R M : List (List Int)} {a : List Int} (hR : AllV p n R) (ha : Vec p n a) : ∀ k, k ≤ R.length → Vec p n (redQ p R M a many k).1 ∧ Vec p many (redQ p R M a many k).2
  | 0, _ => ⟨ha, Vec.zero hp many⟩
  | k + 1, hk => by
    have ih := redQ_vec hp (M := M) (many := many) hR ha k (by omega)
    rw [redQ_succ]
    unfold redP
    split
    · exact ih
    · exact ⟨Vec.addD hp ih.1.1 (hR _ (getD_mem (z := ([] : List Int)) (by omega))).1, addM_vec hp _ ih.2 _⟩
theorem redQ_red {p : Int} (hp : 0 < p) {n many : Nat} {R M : List (List Int)} {a : List Int} (hR : AllV p n R) (ha : Vec p n a) : ∀ k, k ≤ R.length → (redQ p R M a many k).1 = redD p ldG (R.take k) a
  | 0, _ => rfl
  | k + 1, hk => by
    have ih := redQ_red hp (M := M) (many := many) hR ha k (by omega)
    have hv := (redQ_vec hp (M := M) (many := many) hR ha k (by omega)).1
    have hr := hR _ (getD_mem (z := ([] : List Int)) (l := R) (i := k) (by omega))
    rw [redQ_succ, take_succ [] R k (by omega), redD, List.foldl_append]
    change _ = addD p (p - (redD p ldG (R.take k) a).getD (ldG (R.getD k [])) 0) (redD p ldG (R.take k) a) (R.getD k [])
    rw [← ih]
    unfold redP
    split
    · rename_i h
      rw [h, Int.sub_zero, addD_mul 1 (by omega) hv hr.1]
    · rfl
structure EchP (p : Int) (u : Nat) (R M : List (List Int)) (many : Nat) : Prop where
  vec : AllV p (2 ^ u) R
  nz : ∀ r ∈ R, ¬ ldI r < 0
  len : M.length = R.length
  mad : ∀ m ∈ M, m.length ≤ many ∧ Vec p m.length m
  bd : R.length ≤ 64
  many : many ≤ 1000
section
variable {p : Int} {u : Nat} (hp : 1 < p ∧ p ≤ 5) (hu : u ≤ 6)
include hp hu
end
end Abs.Y
