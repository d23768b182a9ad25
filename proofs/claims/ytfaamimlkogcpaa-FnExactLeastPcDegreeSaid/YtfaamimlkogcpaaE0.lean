/- What functions of this program compute, as contracts over plain data, with what the proofs need of them. No condition. -/
import Derived.Test.YtfaamimlkogcpaaV11
import Derived.Test.YtfaamimlkogcpaaG4
import Derived.Test.YtfaamimlkogcpaaA1
set_option linter.all false
namespace Abs.Y
open Go Go.Proofs Abs
open Nat renaming reduceEqDiff → zqa, reduceLT → zqb, reduceAdd → zqc, reduceMul → zqd, reduceSub → zqe, reduceLeDiff → zqf, reduceSubDiff → zqg, reduceBEq → zqh
open Bool renaming not_eq_true' → zba, not_eq_false' → zbb, and_eq_true → zbc, or_eq_true → zbd, or_eq_false_iff → zbe
open Int renaming ofNat_lt → zia, ofNat_le → zib, not_lt → zic, not_le → zid
open Decidable renaming not_not → zda
set_option maxRecDepth 100000

def degT (a : List (Int × Int)) : Int := a.foldl (fun d t => max d (cnt t.1.toNat : Int)) (-1)
def degD (v : List Int) : Int := (List.range v.length).foldl (fun d m => if v.getD m 0 = 0 then d else max d (cnt m : Int)) (-1)
theorem deg_eq (v : List Int) : degT (spT v) = degD v := by
  have : ∀ (r : List Nat) (d : Int), ((r.filter fun m => decide (v.getD m 0 ≠ 0)).map fun m : Nat => ((m : Int), v.getD m 0)).foldl (fun d (t : Int × Int) => max d (cnt t.1.toNat : Int)) d = r.foldl (fun d m => if v.getD m 0 = 0 then d else max d (cnt m : Int)) d := by
    intro r
    induction r with
    | nil => intro d; rfl
    | cons m r ih =>
      intro d
      by_cases hz : v.getD m 0 = 0
      · rw [List.filter_cons_of_neg (by rw [decide_eq_true_eq]; exact fun h => h hz), List.foldl_cons, if_pos hz]
        exact ih d
      · rw [List.filter_cons_of_pos (by rw [decide_eq_true_eq]; exact hz), List.map_cons, List.foldl_cons, List.foldl_cons, if_neg hz]
        simp only [Int.toNat_natCast]
        exact ih _
  exact this _ _
theorem fold_max (a : List (Int × Int)) : ∀ d : Int, d ≤ a.foldl (fun d t => max d (cnt t.1.toNat : Int)) d ∧ a.foldl (fun d t => max d (cnt t.1.toNat : Int)) d ≤ max d 6 := by
  induction a with
  | nil => intro d; simp only [List.foldl_nil]; omega
  | cons t r ih =>
    intro d
    have h1 := ih (max d (cnt t.1.toNat : Int))
    have h2 := cnt_le t.1.toNat
    rw [List.foldl_cons]
    omega
theorem degT_bd (a : List (Int × Int)) : -1 ≤ degT a ∧ degT a ≤ 6 := by
  have := fold_max a (-1)
  unfold degT
  omega
theorem degT_neg (a : List (Int × Int)) : degT a < 0 ↔ a = [] := by
  cases a with
  | nil => simp [degT]
  | cons t r =>
    have := fold_max r (max (-1) (cnt t.1.toNat : Int))
    have h : degT (t :: r) = r.foldl (fun d t => max d (cnt t.1.toNat : Int)) (max (-1) (cnt t.1.toNat : Int)) := rfl
    constructor
    · intro hn; rw [h] at hn; omega
    · intro hn; cases hn
theorem l1Most_ok (a b : Int) : Ctr Try.prog 141 [.int .i64 a, .int .i64 b] false (.d (.int .i64 (max a b))) [] := by
  refine Ctr.of (n := 10) (rs := [.tmp 4]) Try.func141 rfl rfl Try.ntmps141 rfl rfl (by kernel_rfl) Try.checked.mixed ?_
  simp (disch := first | omega | decide +kernel) only [go_sem, zqa, zqb, zqc, zqd, zqe, ↓reduceIte, reduceCtorEq, zqf, zqg, zqh]
  (repeat' (first | ((first | (refine gsel_split (fun q' => ?_) (fun q' => ?_) <;> (have h' := q') <;> (try simp only [decide_eq_true_eq, decide_eq_false_iff_not, zba, zbb, bne_iff_ne, ne_eq, beq_iff_eq, bne_eq_false_iff_eq, beq_eq_false_iff_ne, zia, zib, zic, zid, zda, zbc, zbd, zbe, gt_iff_lt, ge_iff_le] at h')) | (have q' := trivial; first | refine hE _ _ ret_ne ?_ | refine hE _ _ exit_ne ?_)) <;> (try simp (disch := first | omega | decide +kernel) only [q', go_sem, zqa, zqb, zqc, zqd, zqe, ↓reduceIte, reduceCtorEq, zqf, zqg, zqh]) <;> clear q') | (refine hN _ ?_ ?_ Wk.kk) | (with_reducible refine And.intro ?_ ?_) | (with_reducible omega) | (exact ok_ints) | (exact cells_ints) | (exact no_mem) | (with_reducible exact plain_ints) | (refine le_maxLen ?_; omega) | (refine List.forall_mem_cons.2 ⟨?_, ?_⟩) | (simp only [go_sem, zqc, zqb, List.mem_cons, List.not_mem_nil, forall_eq]; done)))
  all_goals (first | (simp_all; done) | (congr 1; omega))
theorem l18Degree_ok {n : Nat} {p : Int} (hn : n ≤ 64) {a : List (Int × Int)} (hl : a.length ≤ 4294967296) (ha : Tms p n a) : Ctr Try.prog 116 [D.tms a] false (.d (.int .i64 (degT a))) [] := by
  refine Ctr.of (n := 20) (rs := [.tmp 2]) Try.func116 rfl rfl Try.ntmps116 rfl rfl (by kernel_rfl) Try.checked.mixed ?_
  simp (disch := first | omega | decide +kernel) only [go_sem, zqa, zqb, zqc, zqd, zqe, ↓reduceIte, reduceCtorEq, zqf, zqg, zqh]
  (repeat' (first | ((first | (refine gsel_split (fun q' => ?_) (fun q' => ?_) <;> (have h' := q') <;> (try simp only [decide_eq_true_eq, decide_eq_false_iff_not, zba, zbb, bne_iff_ne, ne_eq, beq_iff_eq, bne_eq_false_iff_eq, beq_eq_false_iff_ne, zia, zib, zic, zid, zda, zbc, zbd, zbe, gt_iff_lt, ge_iff_le] at h') <;> try (exfalso; omega)) | (have q' := trivial; first | refine hE _ _ ret_ne ?_ | refine hE _ _ exit_ne ?_)) <;> (try simp (disch := first | omega | decide +kernel) only [q', go_sem, zqa, zqb, zqc, zqd, zqe, ↓reduceIte, reduceCtorEq, zqf, zqg, zqh]) <;> clear q') | (refine hN _ ?_ ?_ Wk.kk) | (with_reducible refine And.intro ?_ ?_) | (with_reducible omega) | (exact ok_ints) | (exact cells_ints) | (exact no_mem) | (with_reducible exact plain_ints) | (refine le_maxLen ?_; omega) | (refine List.forall_mem_cons.2 ⟨?_, ?_⟩) | (simp only [go_sem, zqc, zqb, List.mem_cons, List.not_mem_nil, forall_eq]; done)))
  refine Ok.loopN [18, 17, 16, 15, 14, 13, 12, 11, 10, 9, 8, 7, 6, 5, 4, 3, 1] (fun i d => [(4, .d (.int .i64 (i : Nat))), (3, .d (.int .i64 d))]) (fun _ _ => []) a.length
    (fun i (d : Int) => d = degT (a.take i)) (-1) rfl (Wk.kk) ?_
  rintro R i d hN hE hi hd
  by_cases hlt : i < a.length
  · obtain ⟨k, hk, hk1, _⟩ := mem_tms ha hlt
    have hea := el_tm hlt
    rw [hk1] at hea
    have hs : degT (a.take (i + 1)) = max d (cnt k : Int) := by
      unfold degT
      rw [take_succ (0, 0) a i hlt, List.foldl_append]
      unfold degT at hd
      rw [← hd]
      simp only [List.foldl_cons, List.foldl_nil, hk1, Int.toNat_natCast]
    have c1 := l14Count_ok (m := k) (by omega)
    have c2 := l1Most_ok d (cnt k)
    have hkl := cnt_le k
    clear hd
    generalize cnt k = c at *
    simp (disch := first | omega | decide +kernel) only [hea, go_sem, zqa, zqb, zqc, zqd, zqe, ↓reduceIte, reduceCtorEq, zqf, zqg, zqh]
    (repeat' (first | ((first | (refine gsel_split (fun q' => ?_) (fun q' => ?_) <;> (have h' := q') <;> (try simp only [decide_eq_true_eq, decide_eq_false_iff_not, zba, zbb, bne_iff_ne, ne_eq, beq_iff_eq, bne_eq_false_iff_eq, beq_eq_false_iff_ne, zia, zib, zic, zid, zda, zbc, zbd, zbe, gt_iff_lt, ge_iff_le] at h') <;> try (exfalso; omega)) | (have q' := trivial; first | refine callX_new (c1) rfl (by decide) ?_ | refine callY_new (c1) rfl ?_ | refine callX_new (c2) rfl (by decide) ?_ | refine callY_new (c2) rfl ?_ | refine hE _ _ ret_ne ?_ | refine hE _ _ exit_ne ?_)) <;> (try simp (disch := first | omega | decide +kernel) only [q', hea, go_sem, zqa, zqb, zqc, zqd, zqe, ↓reduceIte, reduceCtorEq, zqf, zqg, zqh]) <;> clear q') | (refine hN _ ?_ ?_ Wk.kk) | (with_reducible refine And.intro ?_ ?_) | (with_reducible omega) | (exact ok_ints) | (exact cells_ints) | (exact no_mem) | (with_reducible exact plain_ints) | (refine le_maxLen ?_; omega) | (refine List.forall_mem_cons.2 ⟨?_, ?_⟩) | (simp only [go_sem, zqc, zqb, List.mem_cons, List.not_mem_nil, forall_eq]; done)))
    all_goals (first | omega | (refine hN _ _ hlt hs.symm (by refine Wk.auto ?_ ?_ <;> simp [extraK, lk, killL, St.kill, wipeO, wipeS, AV.has, AV.hasL, AO.wipe, List.map_set, updSt, insL, dropS, ins, ]); done))
  · obtain rfl : i = a.length := by omega
    rw [List.take_length] at hd
    rw [← hd] at hE
    simp (disch := first | omega | decide +kernel) only [go_sem, zqa, zqb, zqc, zqd, zqe, ↓reduceIte, reduceCtorEq, zqf, zqg, zqh]
    (repeat' (first | ((first | (refine gsel_split (fun q' => ?_) (fun q' => ?_) <;> (have h' := q') <;> (try simp only [decide_eq_true_eq, decide_eq_false_iff_not, zba, zbb, bne_iff_ne, ne_eq, beq_iff_eq, bne_eq_false_iff_eq, beq_eq_false_iff_ne, zia, zib, zic, zid, zda, zbc, zbd, zbe, gt_iff_lt, ge_iff_le] at h') <;> try (exfalso; omega)) | (have q' := trivial; first | refine hE _ _ ret_ne ?_ | refine hE _ _ exit_ne ?_)) <;> (try simp (disch := first | omega | decide +kernel) only [q', go_sem, zqa, zqb, zqc, zqd, zqe, ↓reduceIte, reduceCtorEq, zqf, zqg, zqh]) <;> clear q') | (refine hN _ ?_ ?_ Wk.kk) | (with_reducible refine And.intro ?_ ?_) | (with_reducible omega) | (exact ok_ints) | (exact cells_ints) | (exact no_mem) | (with_reducible exact plain_ints) | (refine le_maxLen ?_; omega) | (refine List.forall_mem_cons.2 ⟨?_, ?_⟩) | (simp only [go_sem, zqc, zqb, List.mem_cons, List.not_mem_nil, forall_eq]; done)))
    all_goals (first | omega)
theorem degree_ok {v : List Int} (hl : v.length ≤ 64) : Ctr Try.prog 48 [.ints v] false (.d (.int .i64 (degD v))) [] := by
  refine Ctr.of (n := 21) (rs := [.tmp 2]) Try.func48 rfl rfl Try.ntmps48 rfl rfl (by kernel_rfl) Try.checked.mixed ?_
  simp (disch := first | omega | decide +kernel) only [D.ints, go_sem, zqa, zqb, zqc, zqd, zqe, ↓reduceIte, reduceCtorEq, zqf, zqg, zqh]
  (repeat' (first | ((first | (refine gsel_split (fun q' => ?_) (fun q' => ?_) <;> (have h' := q') <;> (try simp only [decide_eq_true_eq, decide_eq_false_iff_not, zba, zbb, bne_iff_ne, ne_eq, beq_iff_eq, bne_eq_false_iff_eq, beq_eq_false_iff_ne, zia, zib, zic, zid, zda, zbc, zbd, zbe, gt_iff_lt, ge_iff_le] at h') <;> try (exfalso; omega)) | (have q' := trivial; first | refine hE _ _ ret_ne ?_ | refine hE _ _ exit_ne ?_)) <;> (try simp (disch := first | omega | decide +kernel) only [q', D.ints, go_sem, zqa, zqb, zqc, zqd, zqe, ↓reduceIte, reduceCtorEq, zqf, zqg, zqh]) <;> clear q') | (refine hN _ ?_ ?_ Wk.kk) | (with_reducible refine And.intro ?_ ?_) | (with_reducible omega) | (exact ok_ints) | (exact cells_ints) | (exact no_mem) | (with_reducible exact plain_ints) | (refine le_maxLen ?_; omega) | (refine List.forall_mem_cons.2 ⟨?_, ?_⟩) | (simp only [go_sem, zqc, zqb, List.mem_cons, List.not_mem_nil, forall_eq]; done)))
  refine Ok.loopN [19, 18, 17, 16, 15, 14, 13, 12, 11, 10, 9, 8, 5, 4, 3, 1, 0] (fun i d => [(8, .d (.int .i64 (i : Nat))), (3, .d (.int .i64 d))]) (fun _ _ => []) v.length
    (fun i (d : Int) => d = (List.range i).foldl (fun d m => if v.getD m 0 = 0 then d else max d (cnt m : Int)) (-1)) (-1) rfl (Wk.kk) ?_
  rintro R i d hN hE hi hd
  by_cases hlt : i < v.length
  · have hs : (List.range (i + 1)).foldl (fun d m => if v.getD m 0 = 0 then d else max d (cnt m : Int)) (-1) = if v.getD i 0 = 0 then d else max d (cnt i : Int) := by
      rw [List.range_succ, List.foldl_append, ← hd]; rfl
    have c1 := degreeOf_ok (m := i) (by omega)
    have hkl := cnt_le i
    clear hd
    generalize cnt i = c at *
    by_cases hz : v.getD i 0 = 0
    · rw [if_pos hz] at hs
      have hb : (v.getD i 0 != 0) = false := by rw [hz]; rfl
      simp (disch := first | omega | decide +kernel) only [hb, go_sem, zqa, zqb, zqc, zqd, zqe, ↓reduceIte, reduceCtorEq, zqf, zqg, zqh]
      (repeat' (first | ((first | (refine gsel_split (fun q' => ?_) (fun q' => ?_) <;> (have h' := q') <;> (try simp only [decide_eq_true_eq, decide_eq_false_iff_not, zba, zbb, bne_iff_ne, ne_eq, beq_iff_eq, bne_eq_false_iff_eq, beq_eq_false_iff_ne, zia, zib, zic, zid, zda, zbc, zbd, zbe, gt_iff_lt, ge_iff_le] at h') <;> try (exfalso; omega)) | (have q' := trivial; first | refine callX_new (c1) rfl (by decide) ?_ | refine callY_new (c1) rfl ?_ | refine hE _ _ ret_ne ?_ | refine hE _ _ exit_ne ?_)) <;> (try simp (disch := first | omega | decide +kernel) only [q', hb, go_sem, zqa, zqb, zqc, zqd, zqe, ↓reduceIte, reduceCtorEq, zqf, zqg, zqh]) <;> clear q') | (refine hN _ ?_ ?_ Wk.kk) | (with_reducible refine And.intro ?_ ?_) | (with_reducible omega) | (exact ok_ints) | (exact cells_ints) | (exact no_mem) | (with_reducible exact plain_ints) | (refine le_maxLen ?_; omega) | (refine List.forall_mem_cons.2 ⟨?_, ?_⟩) | (simp only [go_sem, zqc, zqb, List.mem_cons, List.not_mem_nil, forall_eq]; done)))
      all_goals (first | omega | (refine hN d _ hlt hs.symm (by refine Wk.auto ?_ ?_ <;> simp [extraK, lk, killL, St.kill, wipeO, wipeS, AV.has, AV.hasL, AO.wipe, List.map_set, updSt, insL, dropS, ins, ]); done))
    · rw [if_neg hz] at hs
      have hb : (v.getD i 0 != 0) = true := bne_iff_ne.2 hz
      by_cases hdc : d < (c : Int)
      · rw [show max d (c : Int) = c by omega] at hs
        simp (disch := first | omega | decide +kernel) only [hb, if_pos hdc, go_sem, zqa, zqb, zqc, zqd, zqe, ↓reduceIte, reduceCtorEq, zqf, zqg, zqh]
        (repeat' (first | ((first | (refine gsel_split (fun q' => ?_) (fun q' => ?_) <;> (have h' := q') <;> (try simp only [decide_eq_true_eq, decide_eq_false_iff_not, zba, zbb, bne_iff_ne, ne_eq, beq_iff_eq, bne_eq_false_iff_eq, beq_eq_false_iff_ne, zia, zib, zic, zid, zda, zbc, zbd, zbe, gt_iff_lt, ge_iff_le] at h') <;> try (exfalso; omega)) | (have q' := trivial; first | refine callX_new (c1) rfl (by decide) ?_ | refine callY_new (c1) rfl ?_ | refine hE _ _ ret_ne ?_ | refine hE _ _ exit_ne ?_)) <;> (try simp (disch := first | omega | decide +kernel) only [q', hb, if_pos hdc, go_sem, zqa, zqb, zqc, zqd, zqe, ↓reduceIte, reduceCtorEq, zqf, zqg, zqh]) <;> clear q') | (refine hN _ ?_ ?_ Wk.kk) | (with_reducible refine And.intro ?_ ?_) | (with_reducible omega) | (exact ok_ints) | (exact cells_ints) | (exact no_mem) | (with_reducible exact plain_ints) | (refine le_maxLen ?_; omega) | (refine List.forall_mem_cons.2 ⟨?_, ?_⟩) | (simp only [go_sem, zqc, zqb, List.mem_cons, List.not_mem_nil, forall_eq]; done)))
        all_goals (first | omega | (refine hN (c : Int) _ hlt hs.symm (by refine Wk.auto ?_ ?_ <;> simp [extraK, lk, killL, St.kill, wipeO, wipeS, AV.has, AV.hasL, AO.wipe, List.map_set, updSt, insL, dropS, ins, if_pos hdc]); done))
      · rw [show max d (c : Int) = d by omega] at hs
        simp (disch := first | omega | decide +kernel) only [hb, if_neg hdc, go_sem, zqa, zqb, zqc, zqd, zqe, ↓reduceIte, reduceCtorEq, zqf, zqg, zqh]
        (repeat' (first | ((first | (refine gsel_split (fun q' => ?_) (fun q' => ?_) <;> (have h' := q') <;> (try simp only [decide_eq_true_eq, decide_eq_false_iff_not, zba, zbb, bne_iff_ne, ne_eq, beq_iff_eq, bne_eq_false_iff_eq, beq_eq_false_iff_ne, zia, zib, zic, zid, zda, zbc, zbd, zbe, gt_iff_lt, ge_iff_le] at h') <;> try (exfalso; omega)) | (have q' := trivial; first | refine callX_new (c1) rfl (by decide) ?_ | refine callY_new (c1) rfl ?_ | refine hE _ _ ret_ne ?_ | refine hE _ _ exit_ne ?_)) <;> (try simp (disch := first | omega | decide +kernel) only [q', hb, if_neg hdc, go_sem, zqa, zqb, zqc, zqd, zqe, ↓reduceIte, reduceCtorEq, zqf, zqg, zqh]) <;> clear q') | (refine hN _ ?_ ?_ Wk.kk) | (with_reducible refine And.intro ?_ ?_) | (with_reducible omega) | (exact ok_ints) | (exact cells_ints) | (exact no_mem) | (with_reducible exact plain_ints) | (refine le_maxLen ?_; omega) | (refine List.forall_mem_cons.2 ⟨?_, ?_⟩) | (simp only [go_sem, zqc, zqb, List.mem_cons, List.not_mem_nil, forall_eq]; done)))
        all_goals (first | omega | (refine hN d _ hlt hs.symm (by refine Wk.auto ?_ ?_ <;> simp [extraK, lk, killL, St.kill, wipeO, wipeS, AV.has, AV.hasL, AO.wipe, List.map_set, updSt, insL, dropS, ins, if_neg hdc]); done))
  · obtain rfl : i = v.length := by omega
    have hd2 : d = degD v := hd
    rw [← hd2] at hE
    simp (disch := first | omega | decide +kernel) only [go_sem, zqa, zqb, zqc, zqd, zqe, ↓reduceIte, reduceCtorEq, zqf, zqg, zqh]
    (repeat' (first | ((first | (refine gsel_split (fun q' => ?_) (fun q' => ?_) <;> (have h' := q') <;> (try simp only [decide_eq_true_eq, decide_eq_false_iff_not, zba, zbb, bne_iff_ne, ne_eq, beq_iff_eq, bne_eq_false_iff_eq, beq_eq_false_iff_ne, zia, zib, zic, zid, zda, zbc, zbd, zbe, gt_iff_lt, ge_iff_le] at h') <;> try (exfalso; omega)) | (have q' := trivial; first | refine hE _ _ ret_ne ?_ | refine hE _ _ exit_ne ?_)) <;> (try simp (disch := first | omega | decide +kernel) only [q', go_sem, zqa, zqb, zqc, zqd, zqe, ↓reduceIte, reduceCtorEq, zqf, zqg, zqh]) <;> clear q') | (refine hN _ ?_ ?_ Wk.kk) | (with_reducible refine And.intro ?_ ?_) | (with_reducible omega) | (exact ok_ints) | (exact cells_ints) | (exact no_mem) | (with_reducible exact plain_ints) | (refine le_maxLen ?_; omega) | (refine List.forall_mem_cons.2 ⟨?_, ?_⟩) | (simp only [go_sem, zqc, zqb, List.mem_cons, List.not_mem_nil, forall_eq]; done)))
    all_goals (first | omega)
theorem isZero_ok {v : List Int} (hl : v.length ≤ 64) : Ctr Try.prog 75 [.ints v] false (.d (.bool (decide (degD v < 0)))) [] := by
  have c1 := degree_ok hl
  generalize degD v = d at *
  refine Ctr.of (n := 6) (rs := [.tmp 2]) Try.func75 rfl rfl Try.ntmps75 rfl rfl (by kernel_rfl) Try.checked.mixed ?_
  simp (disch := first | omega | decide +kernel) only [D.ints, go_sem, zqa, zqb, zqc, zqd, zqe, ↓reduceIte, reduceCtorEq, zqf, zqg, zqh]
  (repeat' (first | ((first | (refine gsel_split (fun q' => ?_) (fun q' => ?_) <;> (have h' := q') <;> (try simp only [decide_eq_true_eq, decide_eq_false_iff_not, zba, zbb, bne_iff_ne, ne_eq, beq_iff_eq, bne_eq_false_iff_eq, beq_eq_false_iff_ne, zia, zib, zic, zid, zda, zbc, zbd, zbe, gt_iff_lt, ge_iff_le] at h') <;> try (exfalso; omega)) | (have q' := trivial; first | refine callX_new (c1) rfl (by decide) ?_ | refine callY_new (c1) rfl ?_ | refine hE _ _ ret_ne ?_ | refine hE _ _ exit_ne ?_)) <;> (try simp (disch := first | omega | decide +kernel) only [q', D.ints, go_sem, zqa, zqb, zqc, zqd, zqe, ↓reduceIte, reduceCtorEq, zqf, zqg, zqh]) <;> clear q') | (refine hN _ ?_ ?_ Wk.kk) | (with_reducible refine And.intro ?_ ?_) | (with_reducible omega) | (exact ok_ints) | (exact cells_ints) | (exact no_mem) | (with_reducible exact plain_ints) | (refine le_maxLen ?_; omega) | (refine List.forall_mem_cons.2 ⟨?_, ?_⟩) | (simp only [go_sem, zqc, zqb, List.mem_cons, List.not_mem_nil, forall_eq]; done)))
  all_goals (first | omega)
end Abs.Y

namespace Abs.Y
open Go Go.Proofs Abs
open Nat renaming reduceEqDiff → zqa, reduceLT → zqb, reduceAdd → zqc, reduceMul → zqd, reduceSub → zqe, reduceLeDiff → zqf, reduceSubDiff → zqg, reduceBEq → zqh
open Bool renaming not_eq_true' → zba, not_eq_false' → zbb, and_eq_true → zbc, or_eq_true → zbd, or_eq_false_iff → zbe
open Int renaming ofNat_lt → zia, ofNat_le → zib, not_lt → zic, not_le → zid
open Decidable renaming not_not → zda
set_option maxRecDepth 100000

def sumR (k : Nat) (f : Nat → Int) : Int := (List.range k).foldl (fun s i => s + f i) 0
theorem sumR_succ (k : Nat) (f : Nat → Int) : sumR (k + 1) f = sumR k f + f k := by
  rw [sumR, List.range_succ, List.foldl_append]; rfl
theorem sumR_congr {k : Nat} {f g : Nat → Int} (h : ∀ i, i < k → f i = g i) : sumR k f = sumR k g := by
  induction k with
  | zero => rfl
  | succ k ih => rw [sumR_succ, sumR_succ, ih fun i hi => h i (by omega), h k (by omega)]
theorem sumR_mul (k : Nat) (c : Int) (f : Nat → Int) : sumR k (fun i => c * f i) = c * sumR k f := by
  induction k with
  | zero => simp [sumR]
  | succ k ih => rw [sumR_succ, sumR_succ, ih]; grind
theorem st_fold {p : Int} (hp : 0 < p) {n : Nat} (g : Nat → Nat) (h : Nat → Int) {v : List Int} (hv : Vec p n v) (k j : Nat) (hj : j < n) :
    ((List.range k).foldl (fun v i => stP p v (g i) (h i)) v).getD j 0 = (v.getD j 0 + sumR k (fun i => if g i = j then h i else 0)) % p := by
  induction k with
  | zero =>
    have := hv.2 j
    simp only [List.range_zero, List.foldl_nil, sumR, Int.add_zero]
    rw [Int.emod_eq_of_lt this.1 this.2]
  | succ k ih =>
    rw [List.range_succ, List.foldl_append, sumR_succ]
    simp only [List.foldl_cons, List.foldl_nil]
    have hw : Vec p n ((List.range k).foldl (fun v i => stP p v (g i) (h i)) v) := fold_vec (fun v m h => h.st hp _ _) _ hv
    generalize (List.range k).foldl (fun v i => stP p v (g i) (h i)) v = w at *
    unfold stP
    rw [getD_set]
    by_cases e : g k = j
    · rw [if_pos ⟨e, by rw [hw.1]; exact hj⟩, if_pos e, e, ih, Int.emod_add_emod]
      congr 1; omega
    · rw [if_neg (fun h => e h.1), if_neg e, ih, Int.add_zero]
def shD (b : List Int) (m j : Nat) : Int := sumR b.length fun i => if m ||| i = j then b.getD i 0 else 0
theorem row_get {p : Int} (hp : 0 < p) {n : Nat} {v b : List Int} (hv : Vec p n v) (m : Nat) (c : Int) (j : Nat) (hj : j < n) : (rowD p b m c v).getD j 0 = (v.getD j 0 + c * shD b m j) % p := by
  unfold rowD
  rw [st_fold hp (fun i => m ||| i) (fun i => c * b.getD i 0) hv b.length j hj]
  congr 2
  unfold shD
  rw [← sumR_mul]
  exact sumR_congr fun i _ => by split <;> simp
theorem mul_get {p : Int} (hp : 0 < p) {n : Nat} {a b : List Int} (j : Nat) (hj : j < n) : (mulD p n a b).getD j 0 = sumR a.length (fun m => a.getD m 0 * shD b m j) % p := by
  have key : ∀ k, ((List.range k).foldl (fun v m => rowD p b m (a.getD m 0) v) (List.replicate n 0)).getD j 0 = sumR k (fun m => a.getD m 0 * shD b m j) % p := by
    intro k
    induction k with
    | zero =>
      show (List.replicate n (0 : Int)).getD j 0 = _
      rw [getD_rep]; simp [sumR]
    | succ k ih =>
      rw [List.range_succ, List.foldl_append, sumR_succ]
      simp only [List.foldl_cons, List.foldl_nil]
      have hw : Vec p n ((List.range k).foldl (fun v m => rowD p b m (a.getD m 0) v) (List.replicate n 0)) := fold_vec (fun v m h => h.rowD hp b m _) _ (Vec.zero hp n)
      rw [row_get hp hw _ _ j hj, ih, Int.emod_add_emod]
  exact key a.length
theorem sumR_lin {p k : Int} (K : Nat) (c a a' G : Nat → Int) (h : ∀ m, ∃ t, c m = a m + k * a' m + p * t) : ∃ T, sumR K (fun m => c m * G m) = sumR K (fun m => a m * G m) + k * sumR K (fun m => a' m * G m) + p * T := by
  induction K with
  | zero => exact ⟨0, by simp [sumR]⟩
  | succ K ih =>
    obtain ⟨T, hT⟩ := ih
    obtain ⟨t, ht⟩ := h K
    refine ⟨T + t * G K, ?_⟩
    rw [sumR_succ, sumR_succ, sumR_succ, hT, ht]; grind
theorem mul_lin {p k : Int} (hp : 0 < p) {n : Nat} {a a' : List Int} (b : List Int) (ha : a.length = n) (ha' : a'.length = n) : mulD p n (addD p k a a') b = addD p k (mulD p n a b) (mulD p n a' b) := by
  have h1 := Vec.mulD (p := p) hp n (addD p k a a') b
  have h2 := Vec.mulD (p := p) hp n a b
  have h3 := Vec.mulD (p := p) hp n a' b
  refine vec_ext (p := p) (n := n) h1.1 (by rw [addD_len (by rw [h2.1, h3.1]), h2.1]) fun j => ?_
  by_cases hj : j < n
  · rw [addD_get (by rw [h2.1, h3.1]), mul_get hp j hj, mul_get hp j hj, mul_get hp j hj, addD_len (by omega), ha, ha']
    obtain ⟨T, hT⟩ := sumR_lin (p := p) (k := k) n (fun m => (addD p k a a').getD m 0) (fun m => a.getD m 0) (fun m => a'.getD m 0) (fun m => shD b m j) fun m => by
      obtain ⟨t, e⟩ := emod_wit p (a.getD m 0 + k * a'.getD m 0)
      exact ⟨t, by rw [addD_get (by omega), e]⟩
    rw [hT]
    obtain ⟨t1, e1⟩ := emod_wit p (sumR n (fun m => a.getD m 0 * shD b m j))
    obtain ⟨t2, e2⟩ := emod_wit p (sumR n (fun m => a'.getD m 0 * shD b m j))
    rw [e1, e2]
    exact emod_eq_of (T - t1 - k * t2) (by grind)
  · rw [getD_oob (by rw [h1.1]; omega), getD_oob (by rw [addD_len (by rw [h2.1, h3.1]), h2.1]; omega)]
theorem mul_zero {p : Int} (hp : 0 < p) {n : Nat} (b : List Int) : mulD p n (List.replicate n 0) b = List.replicate n 0 := by
  have h1 := Vec.mulD (p := p) hp n (List.replicate n 0) b
  refine vec_ext (p := p) (n := n) h1.1 (by simp) fun j => ?_
  rw [getD_rep]
  by_cases hj : j < n
  · rw [mul_get hp j hj, sumR_congr (g := fun _ => 0 * 0) fun i _ => by rw [getD_rep]; simp]
    rw [sumR_mul]; simp
  · exact getD_oob (by rw [h1.1]; omega)

def kG (m : Nat) : Nat := cnt m * 64 + m
theorem kG_inj {i j : Nat} (hi : i < 64) (hj : j < 64) (h : kG i = kG j) : i = j := by unfold kG at h; omega
theorem kG_lt {i j : Nat} (hi : i < 64) (hj : j < 64) : kG i < kG j ↔ cnt i < cnt j ∨ (cnt i = cnt j ∧ i < j) := by unfold kG; omega
def ldI (v : List Int) : Int := (List.range v.length).foldl (fun o m => if v.getD m 0 ≠ 0 ∧ (o < 0 ∨ kG o.toNat < kG m) then (m : Int) else o) (-1)
def ldG (v : List Int) : Nat := (ldI v).toNat
theorem ldI_inv (v : List Int) (k : Nat) : let o := (List.range k).foldl (fun o m => if v.getD m 0 ≠ 0 ∧ (o < 0 ∨ kG o.toNat < kG m) then (m : Int) else o) (-1)
    (o = -1 ∧ ∀ i, i < k → v.getD i 0 = 0) ∨ ∃ m : Nat, o = m ∧ m < k ∧ v.getD m 0 ≠ 0 ∧ ∀ i, i < k → v.getD i 0 ≠ 0 → kG i ≤ kG m := by
  induction k with
  | zero => exact .inl ⟨rfl, fun i hi => by omega⟩
  | succ k ih =>
    rw [List.range_succ, List.foldl_append]
    simp only [List.foldl_cons, List.foldl_nil] at ih ⊢
    generalize (List.range k).foldl (fun o m => if v.getD m 0 ≠ 0 ∧ (o < 0 ∨ kG o.toNat < kG m) then (m : Int) else o) (-1) = o at *
    rcases ih with ⟨rfl, h⟩ | ⟨m, rfl, hm, hv, h⟩
    · by_cases e : v.getD k 0 = 0
      · rw [if_neg (fun h => h.1 e)]
        refine .inl ⟨rfl, fun i hi => ?_⟩
        by_cases e2 : i = k
        · rw [e2]; exact e
        · exact h i (by omega)
      · rw [if_pos ⟨e, .inl (by decide)⟩]
        refine .inr ⟨k, rfl, by omega, e, fun i hi h2 => ?_⟩
        by_cases e2 : i = k
        · rw [e2]; exact Nat.le_refl _
        · exact absurd (h i (by omega)) h2
    · by_cases e : v.getD k 0 ≠ 0 ∧ ((m : Int) < 0 ∨ kG (m : Int).toNat < kG k)
      · rw [if_pos e]
        have h3 : kG m < kG k := by
          rcases e.2 with h | h
          · omega
          · simpa using h
        refine .inr ⟨k, rfl, by omega, e.1, fun i hi h2 => ?_⟩
        by_cases e2 : i = k
        · rw [e2]; exact Nat.le_refl _
        · exact Nat.le_trans (h i (by omega) h2) (Nat.le_of_lt h3)
      · rw [if_neg e]
        refine .inr ⟨m, rfl, by omega, hv, fun i hi h2 => ?_⟩
        by_cases e2 : i = k
        · subst e2
          have : ¬ kG m < kG i := fun h4 => e ⟨h2, .inr (by simpa using h4)⟩
          omega
        · exact h i (by omega) h2
theorem ldI_or (v : List Int) : (ldI v = -1 ∧ ∀ i, v.getD i 0 = 0) ∨ (ldI v = (ldG v : Nat) ∧ ldG v < v.length ∧ v.getD (ldG v) 0 ≠ 0 ∧ ∀ i, v.getD i 0 ≠ 0 → kG i ≤ kG (ldG v)) := by
  rcases ldI_inv v v.length with ⟨h1, h2⟩ | ⟨m, h1, h2, h3, h4⟩
  · refine .inl ⟨h1, fun i => ?_⟩
    by_cases hi : i < v.length
    · exact h2 i hi
    · exact getD_oob (by omega)
  · have e : ldI v = (m : Int) := h1
    have e2 : ldG v = m := by unfold ldG; rw [e]; simp
    rw [e2]
    exact .inr ⟨e, h2, h3, fun i hi => h4 i (lt_of_get hi) hi⟩
theorem ldI_neg {v : List Int} : ldI v < 0 ↔ ∀ i, v.getD i 0 = 0 := by
  rcases ldI_or v with ⟨h1, h2⟩ | ⟨h1, h2, h3, h4⟩
  · exact ⟨fun _ => h2, fun _ => by rw [h1]; decide⟩
  · exact ⟨fun h => by omega, fun h => absurd (h _) h3⟩
theorem lds_G {n : Nat} (hn : n ≤ 64) : Lds kG n ldG := by
  refine ⟨fun i j hi hj h => kG_inj (by omega) (by omega) h, fun v hv i hi => ?_⟩
  rcases ldI_or v with ⟨_, h2⟩ | ⟨_, _, h3, h4⟩
  · exact absurd (h2 i) hi
  · exact ⟨h3, h4 i hi⟩
theorem degD_max (v : List Int) (k : Nat) : let d := (List.range k).foldl (fun d m => if v.getD m 0 = 0 then d else max d (cnt m : Int)) (-1)
    (∀ i, i < k → v.getD i 0 ≠ 0 → (cnt i : Int) ≤ d) ∧ -1 ≤ d ∧ (d = -1 ∨ ∃ i, i < k ∧ v.getD i 0 ≠ 0 ∧ d = cnt i) := by
  induction k with
  | zero => exact ⟨fun i hi => by omega, by simp, .inl rfl⟩
  | succ k ih =>
    rw [List.range_succ, List.foldl_append]
    simp only [List.foldl_cons, List.foldl_nil] at ih ⊢
    generalize (List.range k).foldl (fun d m => if v.getD m 0 = 0 then d else max d (cnt m : Int)) (-1) = d at *
    obtain ⟨h1, h2, h3⟩ := ih
    by_cases e : v.getD k 0 = 0
    · rw [if_pos e]
      refine ⟨fun i hi hv => ?_, h2, ?_⟩
      · by_cases e2 : i = k
        · rw [e2] at hv; exact absurd e hv
        · exact h1 i (by omega) hv
      · rcases h3 with h3 | ⟨i, h4, h5⟩
        · exact .inl h3
        · exact .inr ⟨i, by omega, h5⟩
    · rw [if_neg e]
      refine ⟨fun i hi hv => ?_, by omega, .inr ?_⟩
      · by_cases e2 : i = k
        · rw [e2]; omega
        · have := h1 i (by omega) hv; omega
      · by_cases e3 : d < (cnt k : Int)
        · exact ⟨k, by omega, e, by omega⟩
        · rcases h3 with h3 | ⟨i, h4, h5, h6⟩
          · omega
          · exact ⟨i, by omega, h5, by omega⟩
theorem degD_ld {v : List Int} (hv : v.length ≤ 64) (h : ¬ ldI v < 0) : degD v = cnt (ldG v) := by
  rcases ldI_or v with ⟨h1, _⟩ | ⟨_, h2, h3, h4⟩
  · rw [h1] at h; exact absurd (by decide) h
  · obtain ⟨d1, _, d3⟩ := degD_max v v.length
    have e1 := d1 _ h2 h3
    rcases d3 with d3 | ⟨i, d4, d5, d6⟩
    · have : (0 : Int) ≤ cnt (ldG v) := by omega
      change (cnt (ldG v) : Int) ≤ degD v at e1
      change degD v = -1 at d3
      omega
    · change (cnt (ldG v) : Int) ≤ degD v at e1
      change degD v = _ at d6
      have h5 := h4 i d5
      unfold kG at h5
      have : cnt i ≤ cnt (ldG v) := by omega
      omega
theorem degD_get {v : List Int} {i : Nat} (h : v.getD i 0 ≠ 0) : (cnt i : Int) ≤ degD v := (degD_max v v.length).1 i (lt_of_get h) h
end Abs.Y

namespace Abs.Y
open Go Go.Proofs Abs
open Nat renaming reduceEqDiff → zqa, reduceLT → zqb, reduceAdd → zqc, reduceMul → zqd, reduceSub → zqe, reduceLeDiff → zqf, reduceSubDiff → zqg, reduceBEq → zqh
open Bool renaming not_eq_true' → zba, not_eq_false' → zbb, and_eq_true → zbc, or_eq_true → zbd, or_eq_false_iff → zbe
open Int renaming ofNat_lt → zia, ofNat_le → zib, not_lt → zic, not_le → zid
open Decidable renaming not_not → zda
set_option maxRecDepth 100000

def cmpI (x y : Int) : Int := if x < y then -1 else if y < x then 1 else 0
def orI (x y : Int) : Int := if x ≠ 0 then x else y
theorem isNaN_ok (x : Int) : Ctr Try.prog 159 [.int .i64 x] false (.d (.bool false)) [] := by
  refine Ctr.of (n := 6) (rs := [.tmp 2]) Try.func159 rfl rfl Try.ntmps159 rfl rfl (by kernel_rfl) Try.checked.mixed ?_
  simp (disch := first | omega | decide +kernel) only [go_sem, zqa, zqb, zqc, zqd, zqe, ↓reduceIte, reduceCtorEq, zqf, zqg, zqh]
  (repeat' (first | ((first | (refine gsel_split (fun q' => ?_) (fun q' => ?_) <;> (have h' := q') <;> (try simp only [decide_eq_true_eq, decide_eq_false_iff_not, zba, zbb, bne_iff_ne, ne_eq, beq_iff_eq, bne_eq_false_iff_eq, beq_eq_false_iff_ne, zia, zib, zic, zid, zda, zbc, zbd, zbe, gt_iff_lt, ge_iff_le] at h')) | (have q' := trivial; first | refine hE _ _ ret_ne ?_ | refine hE _ _ exit_ne ?_)) <;> (try simp (disch := first | omega | decide +kernel) only [q', go_sem, zqa, zqb, zqc, zqd, zqe, ↓reduceIte, reduceCtorEq, zqf, zqg, zqh]) <;> clear q') | (refine hN _ ?_ ?_ Wk.kk) | (with_reducible refine And.intro ?_ ?_) | (with_reducible omega) | (exact ok_ints) | (exact cells_ints) | (exact no_mem) | (with_reducible exact plain_ints) | (refine le_maxLen ?_; omega) | (refine List.forall_mem_cons.2 ⟨?_, ?_⟩) | (simp only [go_sem, zqc, zqb, List.mem_cons, List.not_mem_nil, forall_eq]; done)))
  all_goals (first | (simp; done))
theorem compare_ok (x y : Int) : Ctr Try.prog 151 [.int .i64 x, .int .i64 y] false (.d (.int .i64 (cmpI x y))) [] := by
  have c1 := fun x => isNaN_ok x
  unfold cmpI
  refine Ctr.of (n := 20) (rs := [.tmp 4]) Try.func151 rfl rfl Try.ntmps151 rfl rfl (by kernel_rfl) Try.checked.mixed ?_
  simp (disch := first | omega | decide +kernel) only [go_sem, zqa, zqb, zqc, zqd, zqe, ↓reduceIte, reduceCtorEq, zqf, zqg, zqh]
  (repeat' (first | ((first | (refine gsel_split (fun q' => ?_) (fun q' => ?_) <;> (have h' := q') <;> (try simp only [decide_eq_true_eq, decide_eq_false_iff_not, zba, zbb, bne_iff_ne, ne_eq, beq_iff_eq, bne_eq_false_iff_eq, beq_eq_false_iff_ne, zia, zib, zic, zid, zda, zbc, zbd, zbe, gt_iff_lt, ge_iff_le] at h')) | (have q' := trivial; first | refine callX_new (c1 _) rfl (by decide) ?_ | refine callY_new (c1 _) rfl ?_ | refine hE _ _ ret_ne ?_ | refine hE _ _ exit_ne ?_)) <;> (try simp (disch := first | omega | decide +kernel) only [q', go_sem, zqa, zqb, zqc, zqd, zqe, ↓reduceIte, reduceCtorEq, zqf, zqg, zqh]) <;> clear q') | (refine hN _ ?_ ?_ Wk.kk) | (with_reducible refine And.intro ?_ ?_) | (with_reducible omega) | (exact ok_ints) | (exact cells_ints) | (exact no_mem) | (with_reducible exact plain_ints) | (refine le_maxLen ?_; omega) | (refine List.forall_mem_cons.2 ⟨?_, ?_⟩) | (simp only [go_sem, zqc, zqb, List.mem_cons, List.not_mem_nil, forall_eq]; done)))
  all_goals (first | (simp_all [D.plain]; done) | (split <;> first | omega | (split <;> first | omega | rfl) | rfl))
theorem orL_ok (xs : List Int) (hl : xs.length ≤ 4294967296) : Ctr Try.prog 150 [.ints xs] false (.d (.int .i64 ((xs.find? (fun x => decide (x ≠ 0))).getD 0))) [] := by
  refine Ctr.of (n := 18) (rs := [.tmp 2]) Try.func150 rfl rfl Try.ntmps150 rfl rfl (by kernel_rfl) Try.checked.mixed ?_
  simp (disch := first | omega | decide +kernel) only [D.ints, go_sem, zqa, zqb, zqc, zqd, zqe, ↓reduceIte, reduceCtorEq, zqf, zqg, zqh]
  refine Ok.loopC [16, 15, 14, 13, 12, 11, 10, 9, 8, 5, 4, 2, 1, 0] (fun i => [(8, .d (.int .i64 (i : Nat)))]) xs.length (fun i => (xs.drop i).find? (fun x => decide (x ≠ 0)) = xs.find? (fun x => decide (x ≠ 0))) rfl (Wk.kk) ?_
  intro R i hN hE hi hI
  by_cases hlt : i < xs.length
  · rw [drop_cons 0 xs i hlt, List.find?_cons] at hI
    simp (disch := first | omega | decide +kernel) only [D.ints, go_sem, zqa, zqb, zqc, zqd, zqe, ↓reduceIte, reduceCtorEq, zqf, zqg, zqh]
    (repeat' (first | ((first | (refine gsel_split (fun q' => ?_) (fun q' => ?_) <;> (have h' := q') <;> (try simp only [decide_eq_true_eq, decide_eq_false_iff_not, zba, zbb, bne_iff_ne, ne_eq, beq_iff_eq, bne_eq_false_iff_eq, beq_eq_false_iff_ne, zia, zib, zic, zid, zda, zbc, zbd, zbe, gt_iff_lt, ge_iff_le] at h')) | (have q' := trivial; first | refine hE _ _ ret_ne ?_ | refine hE _ _ exit_ne ?_)) <;> (try simp (disch := first | omega | decide +kernel) only [q', go_sem, zqa, zqb, zqc, zqd, zqe, ↓reduceIte, reduceCtorEq, zqf, zqg, zqh]) <;> clear q') | (refine hN _ ?_ ?_ Wk.kk) | (with_reducible refine And.intro ?_ ?_) | (with_reducible omega) | (exact ok_ints) | (exact cells_ints) | (exact no_mem) | (with_reducible exact plain_ints) | (refine le_maxLen ?_; omega) | (refine List.forall_mem_cons.2 ⟨?_, ?_⟩) | (simp only [go_sem, zqc, zqb, List.mem_cons, List.not_mem_nil, forall_eq]; done)))
    · rw [decide_eq_true h'] at hI
      rw [← hI]; rfl
    · rw [decide_eq_false (fun h => h h')] at hI
      exact hI
  · rw [List.drop_eq_nil_of_le (by omega)] at hI
    simp (disch := first | omega | decide +kernel) only [D.ints, go_sem, zqa, zqb, zqc, zqd, zqe, ↓reduceIte, reduceCtorEq, zqf, zqg, zqh]
    (repeat' (first | ((first | (refine gsel_split (fun q' => ?_) (fun q' => ?_) <;> (have h' := q') <;> (try simp only [decide_eq_true_eq, decide_eq_false_iff_not, zba, zbb, bne_iff_ne, ne_eq, beq_iff_eq, bne_eq_false_iff_eq, beq_eq_false_iff_ne, zia, zib, zic, zid, zda, zbc, zbd, zbe, gt_iff_lt, ge_iff_le] at h')) | (have q' := trivial; first | refine hE _ _ ret_ne ?_ | refine hE _ _ exit_ne ?_)) <;> (try simp (disch := first | omega | decide +kernel) only [q', go_sem, zqa, zqb, zqc, zqd, zqe, ↓reduceIte, reduceCtorEq, zqf, zqg, zqh]) <;> clear q') | (refine hN _ ?_ ?_ Wk.kk) | (with_reducible refine And.intro ?_ ?_) | (with_reducible omega) | (exact ok_ints) | (exact cells_ints) | (exact no_mem) | (with_reducible exact plain_ints) | (refine le_maxLen ?_; omega) | (refine List.forall_mem_cons.2 ⟨?_, ?_⟩) | (simp only [go_sem, zqc, zqb, List.mem_cons, List.not_mem_nil, forall_eq]; done)))
    rw [← hI]; rfl
theorem or_ok (x y : Int) : Ctr Try.prog 150 [.slice [.int .i64 x, .int .i64 y]] false (.d (.int .i64 (orI x y))) [] := by
  have h := orL_ok [x, y] (by simp)
  have e : ([x, y].find? (fun x => decide (x ≠ 0))).getD 0 = orI x y := by
    unfold orI
    by_cases h1 : x = 0 <;> by_cases h2 : y = 0 <;> simp [h1, h2]
  rw [e] at h
  exact h
end Abs.Y
