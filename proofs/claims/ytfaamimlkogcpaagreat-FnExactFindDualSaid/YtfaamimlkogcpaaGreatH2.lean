/- What functions of this program compute, as contracts over plain data, with what the proofs need of them. No condition. -/
import Derived.Test.YtfaamimlkogcpaaGreatV15
import Derived.Test.YtfaamimlkogcpaaGreatD9
set_option linter.all false
namespace Abs.Y
open Go Go.Proofs Abs
open Nat renaming reduceEqDiff → zqa, reduceLT → zqb, reduceAdd → zqc, reduceMul → zqd, reduceSub → zqe, reduceLeDiff → zqf, reduceSubDiff → zqg, reduceBEq → zqh
open Bool renaming not_eq_true' → zba, not_eq_false' → zbb, and_eq_true → zbc, or_eq_true → zbd, or_eq_false_iff → zbe
open Int renaming ofNat_lt → zia, ofNat_le → zib, not_lt → zic, not_le → zid
open Decidable renaming not_not → zda
set_option maxRecDepth 100000

def gradN (n : Nat) (d : Int) : List Nat := (List.range (d + 1).toNat).flatMap fun k => (List.range n).filter fun m => decide (cnt m = k)
theorem gradN_gm (u : Nat) (d : Int) : GmL u d (gradN (2 ^ u) d) := fun m => by
  unfold gradN
  simp only [List.mem_flatMap, List.mem_range, List.mem_filter, decide_eq_true_eq]
  constructor
  · rintro ⟨k, h1, h2, h3⟩; exact ⟨h2, by omega⟩
  · rintro ⟨h1, h2⟩; exact ⟨cnt m, by omega, h1, rfl⟩
theorem gradN_len (n : Nat) (d : Int) (hn : n ≤ 64) (hd : d ≤ 6) : (gradN n d).length ≤ 448 := by
  have key : ∀ k, ((List.range k).flatMap fun k => (List.range n).filter fun m => decide (cnt m = k)).length ≤ 64 * k := by
    intro k
    induction k with
    | zero => simp
    | succ k ih =>
      rw [List.range_succ, List.flatMap_append, List.length_append]
      have := List.length_filter_le (fun m => decide (cnt m = k)) (List.range n)
      simp only [List.flatMap_cons, List.flatMap_nil, List.append_nil, List.length_range] at this ⊢
      omega
  have := key (d + 1).toNat
  unfold gradN
  omega
@[reducible] def D.nats (l : List Nat) : D := .slice (l.map fun m => .int .i64 (m : Nat))
theorem el_nats {xs : List Nat} {i : Nat} (h : i < xs.length) : el (xs.map fun m => D.int .i64 (m : Nat)) i = .int .i64 (xs.getD i 0 : Nat) := el_map (f := fun m : Nat => D.int .i64 (m : Nat)) 0 h
theorem plain_nats {l : List Nat} : ∀ x ∈ l.map (fun m => D.int .i64 (m : Nat)), x.plain = true := fun x hx => by
  obtain ⟨m, _, rfl⟩ := List.mem_map.1 hx; rfl
set_option maxHeartbeats 4000000 in
theorem l18Graded_ok {u : Nat} (hu : u ≤ 6) {d : Int} (hd : d ≤ 6) : Ctr Tryz.prog 16 [.int .i64 u, .int .i64 d] true (.d (D.nats (gradN (2 ^ u) d))) [] := by
  have h2 := pow_le6 hu
  have e : IntKind.wrap .i64 (1 * 2 ^ min u 64) = ((2 ^ u : Nat) : Int) := shl_one (by omega)
  refine Ctr.data1 (sh := false) (e := 3) (k := 1) ?_
  generalize 2 ^ u = n at *
  refine Ctr.of (n := 29) (rs := [.tmp 4]) Tryz.func16 rfl rfl Tryz.ntmps16 rfl rfl (by kernel_rfl) Tryz.checked.mixed ?_
  simp (disch := first | omega | decide +kernel) only [go_sem, zqa, zqb, zqc, zqd, zqe, ↓reduceIte, reduceCtorEq, zqf, zqg, zqh]
  (repeat' (first | ((first | (refine gsel_split (fun q' => ?_) (fun q' => ?_) <;> (have h' := q') <;> (try simp only [decide_eq_true_eq, decide_eq_false_iff_not, zba, zbb, bne_iff_ne, ne_eq, beq_iff_eq, bne_eq_false_iff_eq, beq_eq_false_iff_ne, zia, zib, zic, zid, zda, zbc, zbd, zbe, gt_iff_lt, ge_iff_le] at h') <;> try (exfalso; omega)) | (have q' := trivial; first | refine hE _ _ ret_ne ?_ | refine hE _ _ exit_ne ?_)) <;> (try simp (disch := first | omega | decide +kernel) only [q', go_sem, zqa, zqb, zqc, zqd, zqe, ↓reduceIte, reduceCtorEq, zqf, zqg, zqh]) <;> clear q') | (refine hN _ ?_ ?_ Wk.kk) | (with_reducible refine And.intro ?_ ?_) | (with_reducible omega) | (exact ok_ints) | (exact cells_ints) | (exact no_mem) | (with_reducible exact plain_ints) | (refine le_maxLen ?_; omega) | (refine List.forall_mem_cons.2 ⟨?_, ?_⟩) | (simp only [go_sem, zqc, zqb, List.mem_cons, List.not_mem_nil, forall_eq]; done)))
  refine Ok.loopN [28, 27, 26, 25, 24, 23, 22, 21, 20, 19, 18, 17, 16, 15, 14, 13, 12, 11, 10, 9, 8, 7, 6, 5, 4, 3, 2] (fun i _ => [(6, .d (.int .i64 (i : Nat))), (5, .sl 8)]) (fun _ (w : List Nat) => [(8, .arr 3 1 (w.map fun m => D.int .i64 (m : Nat)))]) (d + 1).toNat
    (fun i w => w = ((List.range i).flatMap fun k => (List.range n).filter fun m => decide (cnt m = k)) ∧ w.length ≤ 64 * i) [] ⟨rfl, by simp⟩ (by refine Wk.auto ?_ ?_ <;> simp [extraK, lk, killL, St.kill, wipeO, wipeS, AV.has, AV.hasL, AO.wipe, List.map_set, updSt, insL, dropS, ins, ]) ?_
  rintro R i w hN0 hE0 hi ⟨hw, hwl⟩
  by_cases hlt : i < (d + 1).toNat
  · have hs : ((List.range (i + 1)).flatMap fun k => (List.range n).filter fun m => decide (cnt m = k)) = w ++ (List.range n).filter (fun m => decide (cnt m = i)) := by
      rw [List.range_succ, List.flatMap_append, ← hw]; simp
    clear hw
    simp (disch := first | omega | decide +kernel) only [go_sem, zqa, zqb, zqc, zqd, zqe, ↓reduceIte, reduceCtorEq, zqf, zqg, zqh]
    (repeat' (first | ((first | (refine gsel_split (fun q' => ?_) (fun q' => ?_) <;> (have h' := q') <;> (try simp only [decide_eq_true_eq, decide_eq_false_iff_not, zba, zbb, bne_iff_ne, ne_eq, beq_iff_eq, bne_eq_false_iff_eq, beq_eq_false_iff_ne, zia, zib, zic, zid, zda, zbc, zbd, zbe, gt_iff_lt, ge_iff_le] at h') <;> try (exfalso; omega)) | (have q' := trivial; first | refine hE _ _ ret_ne ?_ | refine hE _ _ exit_ne ?_)) <;> (try simp (disch := first | omega | decide +kernel) only [q', go_sem, zqa, zqb, zqc, zqd, zqe, ↓reduceIte, reduceCtorEq, zqf, zqg, zqh]) <;> clear q') | (refine hN _ ?_ ?_ Wk.kk) | (with_reducible refine And.intro ?_ ?_) | (with_reducible omega) | (exact ok_ints) | (exact cells_ints) | (exact no_mem) | (with_reducible exact plain_ints) | (refine le_maxLen ?_; omega) | (refine List.forall_mem_cons.2 ⟨?_, ?_⟩) | (simp only [go_sem, zqc, zqb, List.mem_cons, List.not_mem_nil, forall_eq]; done)))
    all_goals (first | omega | skip)
    refine Ok.loopN [28, 27, 26, 25, 24, 23, 22, 21, 20, 19, 18, 17, 16, 15, 14, 13, 12, 11, 10, 9, 8, 7, 5, 4, 3, 2] (fun j _ => [(7, .d (.int .i64 (j : Nat))), (5, .sl 8)]) (fun _ (x : List Nat) => [(8, .arr 3 1 (x.map fun m => D.int .i64 (m : Nat)))]) n
      (fun j x => x = w ++ (List.range j).filter (fun m => decide (cnt m = i)) ∧ x.length ≤ w.length + j) w ⟨by simp, by omega⟩ (by refine Wk.auto ?_ ?_ <;> simp [extraK, lk, killL, St.kill, wipeO, wipeS, AV.has, AV.hasL, AO.wipe, List.map_set, updSt, insL, dropS, ins, ]) ?_
    rintro R1 j x hN hE hj ⟨hx, hxl⟩
    by_cases hjn : j < n
    · have c1 := l14Count_ok (m := j) (by omega)
      have hs1 : w ++ (List.range (j + 1)).filter (fun m => decide (cnt m = i)) = if cnt j = i then x ++ [j] else x := by
        rw [List.range_succ, List.filter_append, ← List.append_assoc, ← hx]
        by_cases hc : cnt j = i
        · rw [if_pos hc, List.filter_cons_of_pos (by simpa using hc)]; rfl
        · rw [if_neg hc, List.filter_cons_of_neg (by simpa using hc)]; simp
      clear hx
      generalize cnt j = c at *
      by_cases hc : c = i
      · rw [if_pos hc] at hs1
        have hb : ((c : Int) == (i : Int)) = true := beq_iff_eq.2 (by omega)
        simp (disch := first | omega | decide +kernel) only [e, hb, go_sem, zqa, zqb, zqc, zqd, zqe, ↓reduceIte, reduceCtorEq, zqf, zqg, zqh]
        (repeat' (first | ((first | (refine gsel_split (fun q' => ?_) (fun q' => ?_) <;> (have h' := q') <;> (try simp only [decide_eq_true_eq, decide_eq_false_iff_not, zba, zbb, bne_iff_ne, ne_eq, beq_iff_eq, bne_eq_false_iff_eq, beq_eq_false_iff_ne, zia, zib, zic, zid, zda, zbc, zbd, zbe, gt_iff_lt, ge_iff_le] at h') <;> try (exfalso; omega)) | (have q' := trivial; first | refine callX_new (c1) rfl (by decide) ?_ | refine callY_new (c1) rfl ?_ | refine hE _ _ ret_ne ?_ | refine hE _ _ exit_ne ?_)) <;> (try simp (disch := first | omega | decide +kernel) only [q', e, hb, go_sem, zqa, zqb, zqc, zqd, zqe, ↓reduceIte, reduceCtorEq, zqf, zqg, zqh]) <;> clear q') | (refine hN _ ?_ ?_ Wk.kk) | (with_reducible refine And.intro ?_ ?_) | (with_reducible omega) | (exact ok_ints) | (exact cells_ints) | (exact no_mem) | (with_reducible exact plain_ints) | (refine le_maxLen ?_; omega) | (refine List.forall_mem_cons.2 ⟨?_, ?_⟩) | (simp only [go_sem, zqc, zqb, List.mem_cons, List.not_mem_nil, forall_eq]; done)))
        all_goals (first | omega | (refine hN (x ++ [j]) _ hjn ⟨hs1.symm, by simp; omega⟩ (by refine Wk.auto ?_ ?_ <;> simp [extraK, lk, killL, St.kill, wipeO, wipeS, AV.has, AV.hasL, AO.wipe, List.map_set, updSt, insL, dropS, ins, List.map_append, List.map_cons, List.map_nil]); done))
      · rw [if_neg hc] at hs1
        have hb : ((c : Int) == (i : Int)) = false := beq_eq_false_iff_ne.2 (by omega)
        simp (disch := first | omega | decide +kernel) only [e, hb, go_sem, zqa, zqb, zqc, zqd, zqe, ↓reduceIte, reduceCtorEq, zqf, zqg, zqh]
        (repeat' (first | ((first | (refine gsel_split (fun q' => ?_) (fun q' => ?_) <;> (have h' := q') <;> (try simp only [decide_eq_true_eq, decide_eq_false_iff_not, zba, zbb, bne_iff_ne, ne_eq, beq_iff_eq, bne_eq_false_iff_eq, beq_eq_false_iff_ne, zia, zib, zic, zid, zda, zbc, zbd, zbe, gt_iff_lt, ge_iff_le] at h') <;> try (exfalso; omega)) | (have q' := trivial; first | refine callX_new (c1) rfl (by decide) ?_ | refine callY_new (c1) rfl ?_ | refine hE _ _ ret_ne ?_ | refine hE _ _ exit_ne ?_)) <;> (try simp (disch := first | omega | decide +kernel) only [q', e, hb, go_sem, zqa, zqb, zqc, zqd, zqe, ↓reduceIte, reduceCtorEq, zqf, zqg, zqh]) <;> clear q') | (refine hN _ ?_ ?_ Wk.kk) | (with_reducible refine And.intro ?_ ?_) | (with_reducible omega) | (exact ok_ints) | (exact cells_ints) | (exact no_mem) | (with_reducible exact plain_ints) | (refine le_maxLen ?_; omega) | (refine List.forall_mem_cons.2 ⟨?_, ?_⟩) | (simp only [go_sem, zqc, zqb, List.mem_cons, List.not_mem_nil, forall_eq]; done)))
        all_goals (first | omega | (refine hN x _ hjn ⟨hs1.symm, by omega⟩ (by refine Wk.auto ?_ ?_ <;> simp [extraK, lk, killL, St.kill, wipeO, wipeS, AV.has, AV.hasL, AO.wipe, List.map_set, updSt, insL, dropS, ins, List.map_append, List.map_cons, List.map_nil]); done))
    · obtain rfl : j = n := by omega
      rw [← hx] at hs
      simp (disch := first | omega | decide +kernel) only [e, go_sem, zqa, zqb, zqc, zqd, zqe, ↓reduceIte, reduceCtorEq, zqf, zqg, zqh]
      (repeat' (first | ((first | (refine gsel_split (fun q' => ?_) (fun q' => ?_) <;> (have h' := q') <;> (try simp only [decide_eq_true_eq, decide_eq_false_iff_not, zba, zbb, bne_iff_ne, ne_eq, beq_iff_eq, bne_eq_false_iff_eq, beq_eq_false_iff_ne, zia, zib, zic, zid, zda, zbc, zbd, zbe, gt_iff_lt, ge_iff_le] at h') <;> try (exfalso; omega)) | (have q' := trivial; first | refine hE _ _ ret_ne ?_ | refine hE _ _ exit_ne ?_)) <;> (try simp (disch := first | omega | decide +kernel) only [q', e, go_sem, zqa, zqb, zqc, zqd, zqe, ↓reduceIte, reduceCtorEq, zqf, zqg, zqh]) <;> clear q') | (refine hN _ ?_ ?_ Wk.kk) | (with_reducible refine And.intro ?_ ?_) | (with_reducible omega) | (exact ok_ints) | (exact cells_ints) | (exact no_mem) | (with_reducible exact plain_ints) | (refine le_maxLen ?_; omega) | (refine List.forall_mem_cons.2 ⟨?_, ?_⟩) | (simp only [go_sem, zqc, zqb, List.mem_cons, List.not_mem_nil, forall_eq]; done)))
      all_goals (first | omega | (refine hN0 x _ hlt ⟨hs.symm, by omega⟩ (by refine Wk.auto ?_ ?_ <;> simp [extraK, lk, killL, St.kill, wipeO, wipeS, AV.has, AV.hasL, AO.wipe, List.map_set, updSt, insL, dropS, ins, ]); done))
  · obtain rfl : i = (d + 1).toNat := by omega
    have hw2 : w = gradN n d := hw
    rw [← hw2] at hE0
    have hE := hE0
    simp (disch := first | omega | decide +kernel) only [go_sem, zqa, zqb, zqc, zqd, zqe, ↓reduceIte, reduceCtorEq, zqf, zqg, zqh]
    (repeat' (first | ((first | (refine gsel_split (fun q' => ?_) (fun q' => ?_) <;> (have h' := q') <;> (try simp only [decide_eq_true_eq, decide_eq_false_iff_not, zba, zbb, bne_iff_ne, ne_eq, beq_iff_eq, bne_eq_false_iff_eq, beq_eq_false_iff_ne, zia, zib, zic, zid, zda, zbc, zbd, zbe, gt_iff_lt, ge_iff_le] at h') <;> try (exfalso; omega)) | (have q' := trivial; first | refine hE _ _ ret_ne ?_ | refine hE _ _ exit_ne ?_)) <;> (try simp (disch := first | omega | decide +kernel) only [q', go_sem, zqa, zqb, zqc, zqd, zqe, ↓reduceIte, reduceCtorEq, zqf, zqg, zqh]) <;> clear q') | (refine hN _ ?_ ?_ Wk.kk) | (with_reducible refine And.intro ?_ ?_) | (with_reducible omega) | (exact ok_ints) | (exact cells_ints) | (exact no_mem) | (with_reducible exact plain_ints) | (refine le_maxLen ?_; omega) | (refine List.forall_mem_cons.2 ⟨?_, ?_⟩) | (simp only [go_sem, zqc, zqb, List.mem_cons, List.not_mem_nil, forall_eq]; done)))
    all_goals (first | omega | exact ret_sl 8 rfl rfl plain_nats)
theorem l19Lead_ok {v : List Int} (hl : v.length ≤ 64) : Ctr Tryz.prog 43 [.ints v] false (.d (.int .i64 (ldFI v))) [] := by
  unfold ldFI
  refine Ctr.of (n := 16) (rs := [.tmp 2]) Tryz.func43 rfl rfl Tryz.ntmps43 rfl rfl (by kernel_rfl) Tryz.checked.mixed ?_
  simp (disch := first | omega | decide +kernel) only [D.ints, go_sem, zqa, zqb, zqc, zqd, zqe, ↓reduceIte, reduceCtorEq, zqf, zqg, zqh]
  (repeat' (first | ((first | (refine gsel_split (fun q' => ?_) (fun q' => ?_) <;> (have h' := q') <;> (try simp only [decide_eq_true_eq, decide_eq_false_iff_not, zba, zbb, bne_iff_ne, ne_eq, beq_iff_eq, bne_eq_false_iff_eq, beq_eq_false_iff_ne, zia, zib, zic, zid, zda, zbc, zbd, zbe, gt_iff_lt, ge_iff_le] at h') <;> try (exfalso; omega)) | (have q' := trivial; first | refine hE _ _ ret_ne ?_ | refine hE _ _ exit_ne ?_)) <;> (try simp (disch := first | omega | decide +kernel) only [q', D.ints, go_sem, zqa, zqb, zqc, zqd, zqe, ↓reduceIte, reduceCtorEq, zqf, zqg, zqh]) <;> clear q') | (refine hN _ ?_ ?_ Wk.kk) | (with_reducible refine And.intro ?_ ?_) | (with_reducible omega) | (exact ok_ints) | (exact cells_ints) | (exact no_mem) | (with_reducible exact plain_ints) | (refine le_maxLen ?_; omega) | (refine List.forall_mem_cons.2 ⟨?_, ?_⟩) | (simp only [go_sem, zqc, zqb, List.mem_cons, List.not_mem_nil, forall_eq]; done)))
  refine Ok.loopC [15, 14, 13, 12, 11, 10, 9, 8, 7, 6, 5, 4, 3, 2, 1] (fun i => [(3, .d (.int .i64 (i : Nat)))]) v.length (fun i => ∀ j, j < i → (v.getD j 0 != 0) = false) (by simp) (Wk.kk) ?_
  intro R i hN hE hi hI
  by_cases hlt : i < v.length
  · cases hti : (v.getD i 0 != 0) with
    | true =>
      have e : idxR (fun k => v.getD k 0 != 0) v.length = i := idxR_some hlt hti hI
      rw [e] at hE
      simp (disch := first | omega | decide +kernel) only [hti, go_sem, zqa, zqb, zqc, zqd, zqe, ↓reduceIte, reduceCtorEq, zqf, zqg, zqh]
      (repeat' (first | ((first | (refine gsel_split (fun q' => ?_) (fun q' => ?_) <;> (have h' := q') <;> (try simp only [decide_eq_true_eq, decide_eq_false_iff_not, zba, zbb, bne_iff_ne, ne_eq, beq_iff_eq, bne_eq_false_iff_eq, beq_eq_false_iff_ne, zia, zib, zic, zid, zda, zbc, zbd, zbe, gt_iff_lt, ge_iff_le] at h') <;> try (exfalso; omega)) | (have q' := trivial; first | refine hE _ _ ret_ne ?_ | refine hE _ _ exit_ne ?_)) <;> (try simp (disch := first | omega | decide +kernel) only [q', hti, go_sem, zqa, zqb, zqc, zqd, zqe, ↓reduceIte, reduceCtorEq, zqf, zqg, zqh]) <;> clear q') | (refine hN _ ?_ ?_ Wk.kk) | (with_reducible refine And.intro ?_ ?_) | (with_reducible omega) | (exact ok_ints) | (exact cells_ints) | (exact no_mem) | (with_reducible exact plain_ints) | (refine le_maxLen ?_; omega) | (refine List.forall_mem_cons.2 ⟨?_, ?_⟩) | (simp only [go_sem, zqc, zqb, List.mem_cons, List.not_mem_nil, forall_eq]; done)))
      all_goals (first | omega)
    | false =>
      simp (disch := first | omega | decide +kernel) only [hti, go_sem, zqa, zqb, zqc, zqd, zqe, ↓reduceIte, reduceCtorEq, zqf, zqg, zqh]
      (repeat' (first | ((first | (refine gsel_split (fun q' => ?_) (fun q' => ?_) <;> (have h' := q') <;> (try simp only [decide_eq_true_eq, decide_eq_false_iff_not, zba, zbb, bne_iff_ne, ne_eq, beq_iff_eq, bne_eq_false_iff_eq, beq_eq_false_iff_ne, zia, zib, zic, zid, zda, zbc, zbd, zbe, gt_iff_lt, ge_iff_le] at h') <;> try (exfalso; omega)) | (have q' := trivial; first | refine hE _ _ ret_ne ?_ | refine hE _ _ exit_ne ?_)) <;> (try simp (disch := first | omega | decide +kernel) only [q', hti, go_sem, zqa, zqb, zqc, zqd, zqe, ↓reduceIte, reduceCtorEq, zqf, zqg, zqh]) <;> clear q') | (refine hN _ ?_ ?_ Wk.kk) | (with_reducible refine And.intro ?_ ?_) | (with_reducible omega) | (exact ok_ints) | (exact cells_ints) | (exact no_mem) | (with_reducible exact plain_ints) | (refine le_maxLen ?_; omega) | (refine List.forall_mem_cons.2 ⟨?_, ?_⟩) | (simp only [go_sem, zqc, zqb, List.mem_cons, List.not_mem_nil, forall_eq]; done)))
      all_goals (first | omega | (exact all_succ hI hti))
  · obtain rfl : i = v.length := by omega
    have e : idxR (fun k => v.getD k 0 != 0) v.length = -1 := idxR_none fun j hj => hI j (by omega)
    rw [e] at hE
    simp (disch := first | omega | decide +kernel) only [go_sem, zqa, zqb, zqc, zqd, zqe, ↓reduceIte, reduceCtorEq, zqf, zqg, zqh]
    (repeat' (first | ((first | (refine gsel_split (fun q' => ?_) (fun q' => ?_) <;> (have h' := q') <;> (try simp only [decide_eq_true_eq, decide_eq_false_iff_not, zba, zbb, bne_iff_ne, ne_eq, beq_iff_eq, bne_eq_false_iff_eq, beq_eq_false_iff_ne, zia, zib, zic, zid, zda, zbc, zbd, zbe, gt_iff_lt, ge_iff_le] at h') <;> try (exfalso; omega)) | (have q' := trivial; first | refine hE _ _ ret_ne ?_ | refine hE _ _ exit_ne ?_)) <;> (try simp (disch := first | omega | decide +kernel) only [q', go_sem, zqa, zqb, zqc, zqd, zqe, ↓reduceIte, reduceCtorEq, zqf, zqg, zqh]) <;> clear q') | (refine hN _ ?_ ?_ Wk.kk) | (with_reducible refine And.intro ?_ ?_) | (with_reducible omega) | (exact ok_ints) | (exact cells_ints) | (exact no_mem) | (with_reducible exact plain_ints) | (refine le_maxLen ?_; omega) | (refine List.forall_mem_cons.2 ⟨?_, ?_⟩) | (simp only [go_sem, zqc, zqb, List.mem_cons, List.not_mem_nil, forall_eq]; done)))
    all_goals (first | omega)
theorem l19Invert_ok {p c : Int} (hp : p = 2 ∨ p = 3 ∨ p = 5) (hc : 0 < c ∧ c < p) : Ctr Tryz.prog 19 [.int .i64 p, .int .i64 c] false (.d (.int .i64 (invN p c))) [] := by
  obtain ⟨h1, h2, h3, h4⟩ := invN_ok hp hc
  have hp0 : ¬ p = 0 := by omega
  generalize invN p c = k at *
  refine Ctr.of (n := 18) (rs := [.tmp 4]) Tryz.func19 rfl rfl Tryz.ntmps19 rfl rfl (by kernel_rfl) Tryz.checked.mixed ?_
  simp (disch := first | omega | decide +kernel) only [go_sem, zqa, zqb, zqc, zqd, zqe, ↓reduceIte, reduceCtorEq, zqf, zqg, zqh]
  (repeat' (first | ((first | (refine gsel_split (fun q' => ?_) (fun q' => ?_) <;> (have h' := q') <;> (try simp only [decide_eq_true_eq, decide_eq_false_iff_not, zba, zbb, bne_iff_ne, ne_eq, beq_iff_eq, bne_eq_false_iff_eq, beq_eq_false_iff_ne, zia, zib, zic, zid, zda, zbc, zbd, zbe, gt_iff_lt, ge_iff_le] at h') <;> try (exfalso; omega)) | (have q' := trivial; first | refine hE _ _ ret_ne ?_ | refine hE _ _ exit_ne ?_)) <;> (try simp (disch := first | omega | decide +kernel) only [q', go_sem, zqa, zqb, zqc, zqd, zqe, ↓reduceIte, reduceCtorEq, zqf, zqg, zqh]) <;> clear q') | (refine hN _ ?_ ?_ Wk.kk) | (with_reducible refine And.intro ?_ ?_) | (with_reducible omega) | (exact ok_ints) | (exact cells_ints) | (exact no_mem) | (with_reducible exact plain_ints) | (refine le_maxLen ?_; omega) | (refine List.forall_mem_cons.2 ⟨?_, ?_⟩) | (simp only [go_sem, zqc, zqb, List.mem_cons, List.not_mem_nil, forall_eq]; done)))
  refine Ok.loopN [17, 16, 15, 14, 13, 12, 11, 10, 9, 8, 7, 6, 5, 4, 3, 2] (fun i _ => [(5, .d (.int .i64 ((i : Nat) + 1 : Int)))]) (fun _ _ => []) k
    (fun i (_ : Unit) => i < k) () (by omega) (Wk.kk) ?_
  rintro R i ⟨⟩ hN hE hi hI
  have hci : 0 ≤ c * ((i : Int) + 1) ∧ c * ((i : Int) + 1) ≤ 25 := ⟨Int.mul_nonneg (by omega) (by omega), Int.le_trans (Int.mul_le_mul (show c ≤ 5 by omega) (show (i : Int) + 1 ≤ 5 by omega) (by omega) (by decide)) (by decide)⟩
  have em : (c * ((i : Int) + 1)).tmod p = (c * ((i : Int) + 1)) % p := Int.tmod_eq_emod_of_nonneg hci.1
  by_cases e : i + 1 = k
  · have hk : (k : Int) = (i : Int) + 1 := by omega
    rw [hk] at h3 hE
    rw [h3] at em
    simp (disch := first | omega | decide +kernel) only [em, go_sem, zqa, zqb, zqc, zqd, zqe, ↓reduceIte, reduceCtorEq, zqf, zqg, zqh]
    (repeat' (first | ((first | (refine gsel_split (fun q' => ?_) (fun q' => ?_) <;> (have h' := q') <;> (try simp only [decide_eq_true_eq, decide_eq_false_iff_not, zba, zbb, bne_iff_ne, ne_eq, beq_iff_eq, bne_eq_false_iff_eq, beq_eq_false_iff_ne, zia, zib, zic, zid, zda, zbc, zbd, zbe, gt_iff_lt, ge_iff_le] at h') <;> try (exfalso; omega)) | (have q' := trivial; first | refine hE _ _ ret_ne ?_ | refine hE _ _ exit_ne ?_)) <;> (try simp (disch := first | omega | decide +kernel) only [q', em, go_sem, zqa, zqb, zqc, zqd, zqe, ↓reduceIte, reduceCtorEq, zqf, zqg, zqh]) <;> clear q') | (refine hN _ ?_ ?_ Wk.kk) | (with_reducible refine And.intro ?_ ?_) | (with_reducible omega) | (exact ok_ints) | (exact cells_ints) | (exact no_mem) | (with_reducible exact plain_ints) | (refine le_maxLen ?_; omega) | (refine List.forall_mem_cons.2 ⟨?_, ?_⟩) | (simp only [go_sem, zqc, zqb, List.mem_cons, List.not_mem_nil, forall_eq]; done)))
    all_goals (first | omega)
  · have h5 := h4 (i + 1) (by omega) (by omega)
    rw [show ((i + 1 : Nat) : Int) = (i : Int) + 1 by omega] at h5
    generalize c * ((i : Int) + 1) % p = r at *
    have hb : (r == 1) = false := by simpa using h5
    simp (disch := first | omega | decide +kernel) only [em, hb, go_sem, zqa, zqb, zqc, zqd, zqe, ↓reduceIte, reduceCtorEq, zqf, zqg, zqh]
    (repeat' (first | ((first | (refine gsel_split (fun q' => ?_) (fun q' => ?_) <;> (have h' := q') <;> (try simp only [decide_eq_true_eq, decide_eq_false_iff_not, zba, zbb, bne_iff_ne, ne_eq, beq_iff_eq, bne_eq_false_iff_eq, beq_eq_false_iff_ne, zia, zib, zic, zid, zda, zbc, zbd, zbe, gt_iff_lt, ge_iff_le] at h') <;> try (exfalso; omega)) | (have q' := trivial; first | refine hE _ _ ret_ne ?_ | refine hE _ _ exit_ne ?_)) <;> (try simp (disch := first | omega | decide +kernel) only [q', em, hb, go_sem, zqa, zqb, zqc, zqd, zqe, ↓reduceIte, reduceCtorEq, zqf, zqg, zqh]) <;> clear q') | (refine hN _ ?_ ?_ Wk.kk) | (with_reducible refine And.intro ?_ ?_) | (with_reducible omega) | (exact ok_ints) | (exact cells_ints) | (exact no_mem) | (with_reducible exact plain_ints) | (refine le_maxLen ?_; omega) | (refine List.forall_mem_cons.2 ⟨?_, ?_⟩) | (simp only [go_sem, zqc, zqb, List.mem_cons, List.not_mem_nil, forall_eq]; done)))
    all_goals (first | omega | (refine hN () _ hI (by omega) (by refine Wk.auto ?_ ?_ <;> simp [extraK, lk, killL, St.kill, wipeO, wipeS, AV.has, AV.hasL, AO.wipe, List.map_set, updSt, insL, dropS, ins, ]); done))
abbrev Pr := Nat × Nat × List Int
@[reducible] def D.pr (t : Pr) : D := .agg [.int .i64 (t.1 : Nat), .int .i64 (t.2.1 : Nat), .slice (t.2.2.map (.int .i64))]
theorem el_pr {xs : List Pr} {i : Nat} (h : i < xs.length) : el (xs.map D.pr) i = .agg [.int .i64 ((xs.getD i (0, 0, [])).1 : Nat), .int .i64 ((xs.getD i (0, 0, [])).2.1 : Nat), .slice ((xs.getD i (0, 0, [])).2.2.map (.int .i64))] := el_map (f := D.pr) (0, 0, []) h
def prI (p : Int) (u : Nat) (G : Int → List Nat) (cs : List (List Int)) (d : Int) (i : Nat) : List Pr := if ((cs.getD i []).length : Int) ≤ d then (G (d - (cs.getD i []).length)).map (fun m => (i, m, prodC p u (cs.getD i []) m)) else []
def prK (p : Int) (u : Nat) (G : Int → List Nat) (cs : List (List Int)) (d : Int) (k : Nat) : List Pr := (List.range k).flatMap (prI p u G cs d)
theorem prK_succ (p : Int) (u : Nat) (G : Int → List Nat) (cs : List (List Int)) (d : Int) (k : Nat) : prK p u G cs d (k + 1) = prK p u G cs d k ++ prI p u G cs d k := by
  unfold prK; rw [List.range_succ, List.flatMap_append]; simp
theorem prK_polys (p : Int) (u : Nat) (G : Int → List Nat) (cs : List (List Int)) (d : Int) : ∀ k, k ≤ cs.length → (prK p u G cs d k).map (fun t => t.2.2) = prodsP p u G (cs.take k) d
  | 0, _ => rfl
  | k + 1, hk => by
    rw [prK_succ, List.map_append, prK_polys p u G cs d k (by omega), take_succ [] cs k (by omega)]
    unfold prodsP
    rw [List.flatMap_append]
    congr 1
    unfold prI
    simp only [List.flatMap_cons, List.flatMap_nil, List.append_nil]
    split
    · rw [List.map_map]; rfl
    · rfl
theorem sp_monoN : ∀ u, u < 7 → ∀ m, m < 2 ^ u → spT (monoD u m) = [((m : Int), (1 : Int))] := by decide +kernel
section
variable {p : Int} {u : Nat} (hp : 1 < p ∧ p ≤ 5) (hu : u ≤ 6)
include hp hu
theorem mulC_ok (c : List Int) {m : Nat} (hm : m < 2 ^ u) : Ctr Tryz.prog 63 [.int .i64 p, .int .i64 u, D.tms (spT (clauseD p u c)), .slice [.agg [.int .i64 (m : Nat), .int .i64 1]]] true (.d (D.tms (spT (prodC p u c m)))) [] := by
  have h2 := pow_le6 hu
  have h1 := Vec.clause hp.1 u c
  have h3 := Vec.mono hp.1 u m
  have c2 := l18Mul_ok hp hu (a := spT (clauseD p u c)) (b := spT (monoD u m)) (by have := Tms.len h1.1 h2; omega) (by have := Tms.len h3.1 h2; omega) (tms_sp h1) (tms_sp h3)
  rw [mul_eq (by omega), sp_monoN u (by omega) m hm] at c2
  exact Ctr.data1 c2
theorem denseD_ok {v : List Int} (hv : Vec p (2 ^ u) v) : Ctr Tryz.prog 62 [.int .i64 u, D.tms (spT v)] true (.d (.ints v)) [] := by
  have h2 := pow_le6 hu
  have c := Ctr.data1 (l18Dense_ok hp hu (a := spT v) (by have := Tms.len hv.1 h2; omega) (tms_sp hv))
  rwa [show dnT (2 ^ u) (spT v) = v by rw [← hv.1]; exact dn_sp v] at c
set_option maxHeartbeats 8000000 in
theorem l19Products_ok {cs : List (List Int)} (hok : okCnf u cs = true) (hcl : cs.length ≤ 1048576) (hc : ∀ j, (cs.getD j []).length ≤ 1048576) {d : Int} (hd : d ≤ 6) :
    Ctr Tryz.prog 41 [.int .i64 p, .agg [.int .i64 u, .slice (cs.map D.ints)], .int .i64 d] true (.d (.slice ((prK p u (gradN (2 ^ u)) cs d cs.length).map D.pr))) [] := by
  have h2 := pow_le6 hu
  have h60 := cnf_len hok
  refine Ctr.of (n := 78) (rs := [.tmp 6]) Tryz.func41 rfl rfl Tryz.ntmps41 rfl rfl (by kernel_rfl) Tryz.checked.mixed ?_
  simp (disch := first | omega | decide +kernel) only [D.ints, go_sem, zqa, zqb, zqc, zqd, zqe, ↓reduceIte, reduceCtorEq, zqf, zqg, zqh]
  (repeat' (first | ((first | (refine gsel_split (fun q' => ?_) (fun q' => ?_) <;> (have h' := q') <;> (try simp only [decide_eq_true_eq, decide_eq_false_iff_not, zba, zbb, bne_iff_ne, ne_eq, beq_iff_eq, bne_eq_false_iff_eq, beq_eq_false_iff_ne, zia, zib, zic, zid, zda, zbc, zbd, zbe, gt_iff_lt, ge_iff_le] at h') <;> try (exfalso; omega)) | (have q' := trivial; first | refine hE _ _ ret_ne ?_ | refine hE _ _ exit_ne ?_)) <;> (try simp (disch := first | omega | decide +kernel) only [q', D.ints, go_sem, zqa, zqb, zqc, zqd, zqe, ↓reduceIte, reduceCtorEq, zqf, zqg, zqh]) <;> clear q') | (refine hN _ ?_ ?_ Wk.kk) | (with_reducible refine And.intro ?_ ?_) | (with_reducible omega) | (exact ok_ints) | (exact cells_ints) | (exact no_mem) | (with_reducible exact plain_ints) | (refine le_maxLen ?_; omega) | (refine List.forall_mem_cons.2 ⟨?_, ?_⟩) | (simp only [go_sem, zqc, zqb, List.mem_cons, List.not_mem_nil, forall_eq]; done)))
  refine Ok.loopN [77, 76, 75, 74, 73, 72, 71, 70, 69, 68, 67, 66, 65, 64, 63, 62, 61, 60, 59, 58, 57, 56, 55, 54, 53, 52, 51, 50, 49, 48, 47, 46, 45, 44, 43, 42, 41, 40, 39, 38, 37, 36, 35, 34, 33, 32, 31, 30, 29, 28, 27, 26, 25, 24, 23, 22, 21, 20, 19, 18, 17, 16, 15, 14, 13, 12, 11, 10, 9, 8, 7, 6, 5, 3] (fun i _ => [(8, .d (.int .i64 (i : Nat))), (7, .sl 12)]) (fun _ (w : List Pr) => [(12, .arr 81 3 (w.map D.pr))]) cs.length
    (fun i w => w = prK p u (gradN (2 ^ u)) cs d i ∧ w.length ≤ 448 * i) [] ⟨rfl, by simp⟩ (by refine Wk.auto ?_ ?_ <;> simp [extraK, lk, killL, St.kill, wipeO, wipeS, AV.has, AV.hasL, AO.wipe, List.map_set, updSt, insL, dropS, ins, ]) ?_
  rintro R i w hN0 hE0 hi ⟨hw, hwl⟩
  by_cases hlt : i < cs.length
  · have hs := prK_succ p u (gradN (2 ^ u)) cs d i
    rw [← hw] at hs
    have hei := el_intss (xs := cs) hlt
    have hcx := hc i
    have hci : cs.getD i [] ∈ cs := getD_mem (z := ([] : List Int)) hlt
    have c1 := l18Clause_ok hp hu (c := cs.getD i []) (by omega) (cnf_lits hok hci)
    unfold prI at hs
    clear hw
    by_cases hle : ((cs.getD i []).length : Int) ≤ d
    · rw [if_pos hle] at hs
      have c2 := l18Graded_ok hu (d := d - (cs.getD i []).length) (by omega)
      have hgl := gradN_len (2 ^ u) (d - (cs.getD i []).length) h2 (by omega)
      have hgm := gradN_gm u (d - (cs.getD i []).length)
      have c3 := fun m (hm : m < 2 ^ u) => mulC_ok hp hu (cs.getD i []) hm
      have c4 := fun m => denseD_ok hp hu (prodC_vec hp.1 u (cs.getD i []) m)
      generalize gradN (2 ^ u) (d - (cs.getD i []).length) = G at *
      generalize hCl : spT (clauseD p u (cs.getD i [])) = C at *
      generalize cs.getD i [] = c at *
      simp (disch := first | omega | decide +kernel) only [D.ints, hei, go_sem, zqa, zqb, zqc, zqd, zqe, ↓reduceIte, reduceCtorEq, zqf, zqg, zqh]
      (repeat' (first | ((first | (refine gsel_split (fun q' => ?_) (fun q' => ?_) <;> (have h' := q') <;> (try simp only [decide_eq_true_eq, decide_eq_false_iff_not, zba, zbb, bne_iff_ne, ne_eq, beq_iff_eq, bne_eq_false_iff_eq, beq_eq_false_iff_ne, zia, zib, zic, zid, zda, zbc, zbd, zbe, gt_iff_lt, ge_iff_le] at h') <;> try (exfalso; omega)) | (have q' := trivial; first | refine callX_shared (c1) rfl (by decide) ?_ | refine callY_shared (c1) rfl ?_ | refine callX_shared (c2) rfl (by decide) ?_ | refine callY_shared (c2) rfl ?_ | refine hE _ _ ret_ne ?_ | refine hE _ _ exit_ne ?_)) <;> (try simp (disch := first | omega | decide +kernel) only [q', D.ints, hei, go_sem, zqa, zqb, zqc, zqd, zqe, ↓reduceIte, reduceCtorEq, zqf, zqg, zqh]) <;> clear q') | (refine hN _ ?_ ?_ Wk.kk) | (with_reducible refine And.intro ?_ ?_) | (with_reducible omega) | (exact ok_ints) | (exact cells_ints) | (exact no_mem) | (with_reducible exact plain_ints) | (refine le_maxLen ?_; omega) | (refine List.forall_mem_cons.2 ⟨?_, ?_⟩) | (simp only [go_sem, zqc, zqb, List.mem_cons, List.not_mem_nil, forall_eq]; done)))
      all_goals (first | omega | skip)
      refine Ok.loopN [77, 76, 75, 74, 73, 72, 71, 70, 69, 68, 67, 66, 65, 64, 63, 62, 61, 60, 59, 58, 57, 56, 55, 54, 53, 52, 51, 50, 49, 48, 47, 46, 45, 44, 43, 42, 41, 40, 39, 38, 37, 36, 35, 34, 33, 32, 31, 30, 29, 28, 27, 26, 25, 24, 23, 22, 21, 20, 19, 18, 17, 16, 15, 14, 13, 12, 11, 7, 6, 5, 3] (fun j _ => [(11, .d (.int .i64 (j : Nat))), (7, .sl 12)]) (fun _ (x : List Pr) => [(12, .arr 81 3 (x.map D.pr))]) G.length
        (fun j x => x = w ++ (G.take j).map (fun m => (i, m, prodC p u c m)) ∧ x.length ≤ w.length + j) w ⟨by simp, by omega⟩ (by refine Wk.auto ?_ ?_ <;> simp [extraK, lk, killL, St.kill, wipeO, wipeS, AV.has, AV.hasL, AO.wipe, List.map_set, updSt, insL, dropS, ins, ]) ?_
      rintro R1 j x hN hE hj ⟨hx, hxl⟩
      by_cases hjn : j < G.length
      · have hs1 : w ++ (G.take (j + 1)).map (fun m => (i, m, prodC p u c m)) = x ++ [(i, G.getD j 0, prodC p u c (G.getD j 0))] := by
          rw [take_succ 0 G j hjn, List.map_append, ← List.append_assoc, ← hx]; rfl
        have hej := el_nats hjn
        have hm := ((hgm (G.getD j 0)).1 (getD_mem (z := 0) hjn)).1
        have c5 := c3 _ hm
        have c6 := c4 (G.getD j 0)
        clear hx c3 c4
        generalize G.getD j 0 = m at *
        generalize spT (prodC p u c m) = T at *
        generalize prodC p u c m = V at *
        simp (disch := first | omega | decide +kernel) only [D.ints, hej, go_sem, zqa, zqb, zqc, zqd, zqe, ↓reduceIte, reduceCtorEq, zqf, zqg, zqh]
        (repeat' (first | ((first | (refine gsel_split (fun q' => ?_) (fun q' => ?_) <;> (have h' := q') <;> (try simp only [decide_eq_true_eq, decide_eq_false_iff_not, zba, zbb, bne_iff_ne, ne_eq, beq_iff_eq, bne_eq_false_iff_eq, beq_eq_false_iff_ne, zia, zib, zic, zid, zda, zbc, zbd, zbe, gt_iff_lt, ge_iff_le] at h') <;> try (exfalso; omega)) | (have q' := trivial; first | refine callX_shared (c5) rfl (by decide) ?_ | refine callY_shared (c5) rfl ?_ | refine callX_shared (c6) rfl (by decide) ?_ | refine callY_shared (c6) rfl ?_ | refine hE _ _ ret_ne ?_ | refine hE _ _ exit_ne ?_)) <;> (try simp (disch := first | omega | decide +kernel) only [q', D.ints, hej, go_sem, zqa, zqb, zqc, zqd, zqe, ↓reduceIte, reduceCtorEq, zqf, zqg, zqh]) <;> clear q') | (refine hN _ ?_ ?_ Wk.kk) | (with_reducible refine And.intro ?_ ?_) | (with_reducible omega) | (exact ok_ints) | (exact cells_ints) | (exact no_mem) | (with_reducible exact plain_ints) | (refine le_maxLen ?_; omega) | (refine List.forall_mem_cons.2 ⟨?_, ?_⟩) | (simp only [go_sem, zqc, zqb, List.mem_cons, List.not_mem_nil, forall_eq]; done)))
        all_goals (first | omega | (rw [ok_agg]; simp [D.atom]; done) | (refine hN (x ++ [(i, m, V)]) _ hjn ⟨hs1.symm, by simp; omega⟩ (by refine Wk.auto ?_ ?_ <;> simp [extraK, lk, killL, St.kill, wipeO, wipeS, AV.has, AV.hasL, AO.wipe, List.map_set, updSt, insL, dropS, ins, List.map_append, List.map_cons, List.map_nil, D.ints]); done))
      · obtain rfl : j = G.length := by omega
        rw [List.take_length] at hx
        rw [← hx] at hs
        simp (disch := first | omega | decide +kernel) only [D.ints, go_sem, zqa, zqb, zqc, zqd, zqe, ↓reduceIte, reduceCtorEq, zqf, zqg, zqh]
        (repeat' (first | ((first | (refine gsel_split (fun q' => ?_) (fun q' => ?_) <;> (have h' := q') <;> (try simp only [decide_eq_true_eq, decide_eq_false_iff_not, zba, zbb, bne_iff_ne, ne_eq, beq_iff_eq, bne_eq_false_iff_eq, beq_eq_false_iff_ne, zia, zib, zic, zid, zda, zbc, zbd, zbe, gt_iff_lt, ge_iff_le] at h') <;> try (exfalso; omega)) | (have q' := trivial; first | refine hE _ _ ret_ne ?_ | refine hE _ _ exit_ne ?_)) <;> (try simp (disch := first | omega | decide +kernel) only [q', D.ints, go_sem, zqa, zqb, zqc, zqd, zqe, ↓reduceIte, reduceCtorEq, zqf, zqg, zqh]) <;> clear q') | (refine hN _ ?_ ?_ Wk.kk) | (with_reducible refine And.intro ?_ ?_) | (with_reducible omega) | (exact ok_ints) | (exact cells_ints) | (exact no_mem) | (with_reducible exact plain_ints) | (refine le_maxLen ?_; omega) | (refine List.forall_mem_cons.2 ⟨?_, ?_⟩) | (simp only [go_sem, zqc, zqb, List.mem_cons, List.not_mem_nil, forall_eq]; done)))
        all_goals (first | omega | (refine hN0 x _ hlt ⟨hs.symm, by omega⟩ (by refine Wk.auto ?_ ?_ <;> simp [extraK, lk, killL, St.kill, wipeO, wipeS, AV.has, AV.hasL, AO.wipe, List.map_set, updSt, insL, dropS, ins, D.ints]); done))
    · rw [if_neg hle, List.append_nil] at hs
      simp (disch := first | omega | decide +kernel) only [D.ints, hei, go_sem, zqa, zqb, zqc, zqd, zqe, ↓reduceIte, reduceCtorEq, zqf, zqg, zqh]
      (repeat' (first | ((first | (refine gsel_split (fun q' => ?_) (fun q' => ?_) <;> (have h' := q') <;> (try simp only [decide_eq_true_eq, decide_eq_false_iff_not, zba, zbb, bne_iff_ne, ne_eq, beq_iff_eq, bne_eq_false_iff_eq, beq_eq_false_iff_ne, zia, zib, zic, zid, zda, zbc, zbd, zbe, gt_iff_lt, ge_iff_le] at h') <;> try (exfalso; omega)) | (have q' := trivial; first | refine hE _ _ ret_ne ?_ | refine hE _ _ exit_ne ?_)) <;> (try simp (disch := first | omega | decide +kernel) only [q', D.ints, hei, go_sem, zqa, zqb, zqc, zqd, zqe, ↓reduceIte, reduceCtorEq, zqf, zqg, zqh]) <;> clear q') | (refine hN _ ?_ ?_ Wk.kk) | (with_reducible refine And.intro ?_ ?_) | (with_reducible omega) | (exact ok_ints) | (exact cells_ints) | (exact no_mem) | (with_reducible exact plain_ints) | (refine le_maxLen ?_; omega) | (refine List.forall_mem_cons.2 ⟨?_, ?_⟩) | (simp only [go_sem, zqc, zqb, List.mem_cons, List.not_mem_nil, forall_eq]; done)))
      all_goals (first | omega | (refine hN0 w _ hlt ⟨hs.symm, by omega⟩ (by refine Wk.auto ?_ ?_ <;> simp [extraK, lk, killL, St.kill, wipeO, wipeS, AV.has, AV.hasL, AO.wipe, List.map_set, updSt, insL, dropS, ins, D.ints]); done))
  · obtain rfl : i = cs.length := by omega
    rw [← hw] at hE0
    have hE := hE0
    simp (disch := first | omega | decide +kernel) only [D.ints, go_sem, zqa, zqb, zqc, zqd, zqe, ↓reduceIte, reduceCtorEq, zqf, zqg, zqh]
    (repeat' (first | ((first | (refine gsel_split (fun q' => ?_) (fun q' => ?_) <;> (have h' := q') <;> (try simp only [decide_eq_true_eq, decide_eq_false_iff_not, zba, zbb, bne_iff_ne, ne_eq, beq_iff_eq, bne_eq_false_iff_eq, beq_eq_false_iff_ne, zia, zib, zic, zid, zda, zbc, zbd, zbe, gt_iff_lt, ge_iff_le] at h') <;> try (exfalso; omega)) | (have q' := trivial; first | refine hE _ _ ret_ne ?_ | refine hE _ _ exit_ne ?_)) <;> (try simp (disch := first | omega | decide +kernel) only [q', D.ints, go_sem, zqa, zqb, zqc, zqd, zqe, ↓reduceIte, reduceCtorEq, zqf, zqg, zqh]) <;> clear q') | (refine hN _ ?_ ?_ Wk.kk) | (with_reducible refine And.intro ?_ ?_) | (with_reducible omega) | (exact ok_ints) | (exact cells_ints) | (exact no_mem) | (with_reducible exact plain_ints) | (refine le_maxLen ?_; omega) | (refine List.forall_mem_cons.2 ⟨?_, ?_⟩) | (simp only [go_sem, zqc, zqb, List.mem_cons, List.not_mem_nil, forall_eq]; done)))
    all_goals (first | omega | exact ret_s1 [12] rfl)
end
end Abs.Y
