/- What functions of this program compute, as contracts over plain data, with what the proofs need of them. No condition. -/
import Derived.Test.YtfaamimlkogcpaaGreatAbsShelf
import Derived.Test.YtfaamimlkogcpaaGreatH12
import Derived.Test.YtfaamimlkogcpaaGreatD10
import Derived.Test.YtfaamimlkogcpaaGreatV2
import Derived.Lib.RowBridge
import Derived.Shelf.SlSortCmp.NoneTotal
set_option linter.all false
open Nat renaming reduceEqDiff → zqa, reduceLT → zqb, reduceAdd → zqc, reduceMul → zqd, reduceSub → zqe, reduceLeDiff → zqf, reduceSubDiff → zqg, reduceBEq → zqh
open Bool renaming not_eq_true' → zba, not_eq_false' → zbb, and_eq_true → zbc, or_eq_true → zbd, or_eq_false_iff → zbe
open Int renaming ofNat_lt → zia, ofNat_le → zib, not_lt → zic, not_le → zid
open Decidable renaming not_not → zda
namespace Abs.Y
open Go Go.Proofs Abs
set_option maxRecDepth 100000

section
variable {p : Int} {u : Nat} (hp : 1 < p ∧ p ≤ 5) (hu : u ≤ 6)
include hp hu
theorem l19Times_ok {row : List Int} {k : Int} (hk : 0 ≤ k ∧ k ≤ 5) (hv : Vec p (2 ^ u) row) : Ctr Tryz.prog 18 [.int .i64 p, .ints row, .int .i64 k] true (.d (.ints (timesV p row k))) [] := by
  have h2 := pow_le6 hu
  have hl := hv.1
  have hp0 : ¬ p = 0 := by omega
  refine Ctr.data1 (sh := false) (e := 3) (k := 1) ?_
  refine Ctr.of (n := 28) (rs := [.tmp 6]) Tryz.func18 rfl rfl Tryz.ntmps18 rfl rfl (by kernel_rfl) Tryz.checked.mixed ?_
  simp (disch := first | omega | decide +kernel) only [D.ints, go_sem, zqa, zqb, zqc, zqd, zqe, ↓reduceIte, reduceCtorEq, zqf, zqg, zqh]
  (repeat' (first | ((first | (refine gsel_split (fun q' => ?_) (fun q' => ?_) <;> (have h' := q') <;> (try simp only [decide_eq_true_eq, decide_eq_false_iff_not, zba, zbb, bne_iff_ne, ne_eq, beq_iff_eq, bne_eq_false_iff_eq, beq_eq_false_iff_ne, zia, zib, zic, zid, zda, zbc, zbd, zbe, gt_iff_lt, ge_iff_le] at h') <;> try (exfalso; omega)) | (have q' := trivial; first | refine hE _ _ ret_ne ?_ | refine hE _ _ exit_ne ?_)) <;> (try simp (disch := first | omega | decide +kernel) only [q', D.ints, go_sem, zqa, zqb, zqc, zqd, zqe, ↓reduceIte, reduceCtorEq, zqf, zqg, zqh]) <;> clear q') | (refine hN _ ?_ ?_ Wk.kk) | (with_reducible refine And.intro ?_ ?_) | (with_reducible omega) | (exact ok_ints) | (exact cells_ints) | (exact no_mem) | (with_reducible exact plain_ints) | (refine le_maxLen ?_; omega) | (refine List.forall_mem_cons.2 ⟨?_, ?_⟩) | (simp only [go_sem, zqc, zqb, List.mem_cons, List.not_mem_nil, forall_eq]; done)))
  refine Ok.loopN [26, 25, 24, 23, 22, 21, 20, 19, 18, 17, 16, 15, 14, 13, 12, 11, 10, 9, 8, 7, 5, 4, 3] (fun i _ => [(8, .d (.int .i64 (i : Nat))), (7, .sl 9)]) (fun _ (w : List Int) => [(9, .arr 3 1 (w.map (.int .i64)))]) row.length
    (fun i w => w = timesV p (row.take i) k) [] rfl (by refine Wk.auto ?_ ?_ <;> simp [extraK, lk, killL, St.kill, wipeO, wipeS, AV.has, AV.hasL, AO.wipe, List.map_set, updSt, insL, dropS, ins, D.ints]) ?_
  rintro R i w hN hE hi hw
  have hwl : w.length = i := by rw [hw]; simp [timesV]; omega
  by_cases hlt : i < row.length
  · have hs : timesV p (row.take (i + 1)) k = w ++ [row.getD i 0 * k % p] := by
      rw [take_succ 0 row i hlt, hw]; simp [timesV]
    have hri := hv.2 i
    have hkb : 0 ≤ row.getD i 0 * k ∧ row.getD i 0 * k ≤ 25 := ⟨Int.mul_nonneg hri.1 hk.1, Int.le_trans (Int.mul_le_mul (show row.getD i 0 ≤ 5 by omega) hk.2 hk.1 (by decide)) (by decide)⟩
    have em : (row.getD i 0 * k).tmod p = row.getD i 0 * k % p := Int.tmod_eq_emod_of_nonneg (by omega)
    clear hw
    simp (disch := first | omega | decide +kernel) only [em, go_sem, zqa, zqb, zqc, zqd, zqe, ↓reduceIte, reduceCtorEq, zqf, zqg, zqh]
    (repeat' (first | ((first | (refine gsel_split (fun q' => ?_) (fun q' => ?_) <;> (have h' := q') <;> (try simp only [decide_eq_true_eq, decide_eq_false_iff_not, zba, zbb, bne_iff_ne, ne_eq, beq_iff_eq, bne_eq_false_iff_eq, beq_eq_false_iff_ne, zia, zib, zic, zid, zda, zbc, zbd, zbe, gt_iff_lt, ge_iff_le] at h') <;> try (exfalso; omega)) | (have q' := trivial; first | refine hE _ _ ret_ne ?_ | refine hE _ _ exit_ne ?_)) <;> (try simp (disch := first | omega | decide +kernel) only [q', em, go_sem, zqa, zqb, zqc, zqd, zqe, ↓reduceIte, reduceCtorEq, zqf, zqg, zqh]) <;> clear q') | (refine hN _ ?_ ?_ Wk.kk) | (with_reducible refine And.intro ?_ ?_) | (with_reducible omega) | (exact ok_ints) | (exact cells_ints) | (exact no_mem) | (with_reducible exact plain_ints) | (refine le_maxLen ?_; omega) | (refine List.forall_mem_cons.2 ⟨?_, ?_⟩) | (simp only [go_sem, zqc, zqb, List.mem_cons, List.not_mem_nil, forall_eq]; done)))
    all_goals (first | omega | (refine hN (w ++ [row.getD i 0 * k % p]) _ hlt hs.symm (by refine Wk.auto ?_ ?_ <;> simp [extraK, lk, killL, St.kill, wipeO, wipeS, AV.has, AV.hasL, AO.wipe, List.map_set, updSt, insL, dropS, ins, D.ints, List.map_append, List.map_cons, List.map_nil]); done))
  · obtain rfl : i = row.length := by omega
    rw [List.take_length] at hw
    subst hw
    simp (disch := first | omega | decide +kernel) only [go_sem, zqa, zqb, zqc, zqd, zqe, ↓reduceIte, reduceCtorEq, zqf, zqg, zqh]
    (repeat' (first | ((first | (refine gsel_split (fun q' => ?_) (fun q' => ?_) <;> (have h' := q') <;> (try simp only [decide_eq_true_eq, decide_eq_false_iff_not, zba, zbb, bne_iff_ne, ne_eq, beq_iff_eq, bne_eq_false_iff_eq, beq_eq_false_iff_ne, zia, zib, zic, zid, zda, zbc, zbd, zbe, gt_iff_lt, ge_iff_le] at h') <;> try (exfalso; omega)) | (have q' := trivial; first | refine hE _ _ ret_ne ?_ | refine hE _ _ exit_ne ?_)) <;> (try simp (disch := first | omega | decide +kernel) only [q', go_sem, zqa, zqb, zqc, zqd, zqe, ↓reduceIte, reduceCtorEq, zqf, zqg, zqh]) <;> clear q') | (refine hN _ ?_ ?_ Wk.kk) | (with_reducible refine And.intro ?_ ?_) | (with_reducible omega) | (exact ok_ints) | (exact cells_ints) | (exact no_mem) | (with_reducible exact plain_ints) | (refine le_maxLen ?_; omega) | (refine List.forall_mem_cons.2 ⟨?_, ?_⟩) | (simp only [go_sem, zqc, zqb, List.mem_cons, List.not_mem_nil, forall_eq]; done)))
    all_goals (first | omega | exact ret_sl 9 rfl rfl plain_ints)
theorem l19Less_ok {r row : List Int} {k : Int} (hk : 0 ≤ k ∧ k < p) (hr : Vec p (2 ^ u) r) (hv : Vec p (2 ^ u) row) : Ctr Tryz.prog 20 [.int .i64 p, .ints r, .ints row, .int .i64 k] true (.d (.ints (addD p (p - k) r row))) [] := by
  have h2 := pow_le6 hu
  have hl := hr.1
  have hl2 := hv.1
  have hp0 : ¬ p = 0 := by omega
  have hlen : (addD p (p - k) r row).length = r.length := addD_len (by omega)
  have hget : ∀ i, (addD p (p - k) r row).getD i 0 = (r.getD i 0 + (p - k) * row.getD i 0) % p := fun i => addD_get (by omega) i
  refine Ctr.data1 (sh := false) (e := 3) (k := 1) ?_
  generalize addD p (p - k) r row = W at *
  refine Ctr.of (n := 37) (rs := [.tmp 8]) Tryz.func20 rfl rfl Tryz.ntmps20 rfl rfl (by kernel_rfl) Tryz.checked.mixed ?_
  simp (disch := first | omega | decide +kernel) only [D.ints, go_sem, zqa, zqb, zqc, zqd, zqe, ↓reduceIte, reduceCtorEq, zqf, zqg, zqh]
  (repeat' (first | ((first | (refine gsel_split (fun q' => ?_) (fun q' => ?_) <;> (have h' := q') <;> (try simp only [decide_eq_true_eq, decide_eq_false_iff_not, zba, zbb, bne_iff_ne, ne_eq, beq_iff_eq, bne_eq_false_iff_eq, beq_eq_false_iff_ne, zia, zib, zic, zid, zda, zbc, zbd, zbe, gt_iff_lt, ge_iff_le] at h') <;> try (exfalso; omega)) | (have q' := trivial; first | refine hE _ _ ret_ne ?_ | refine hE _ _ exit_ne ?_)) <;> (try simp (disch := first | omega | decide +kernel) only [q', D.ints, go_sem, zqa, zqb, zqc, zqd, zqe, ↓reduceIte, reduceCtorEq, zqf, zqg, zqh]) <;> clear q') | (refine hN _ ?_ ?_ Wk.kk) | (with_reducible refine And.intro ?_ ?_) | (with_reducible omega) | (exact ok_ints) | (exact cells_ints) | (exact no_mem) | (with_reducible exact plain_ints) | (refine le_maxLen ?_; omega) | (refine List.forall_mem_cons.2 ⟨?_, ?_⟩) | (simp only [go_sem, zqc, zqb, List.mem_cons, List.not_mem_nil, forall_eq]; done)))
  refine Ok.loopN [35, 34, 33, 32, 31, 30, 29, 28, 27, 26, 25, 24, 23, 22, 21, 20, 19, 18, 17, 16, 15, 14, 13, 12, 11, 10, 9, 7, 6, 5, 4] (fun i _ => [(10, .d (.int .i64 (i : Nat))), (9, .sl 11)]) (fun _ (w : List Int) => [(11, .arr 3 1 (w.map (.int .i64)))]) r.length
    (fun i w => w = W.take i) [] rfl (by refine Wk.auto ?_ ?_ <;> simp [extraK, lk, killL, St.kill, wipeO, wipeS, AV.has, AV.hasL, AO.wipe, List.map_set, updSt, insL, dropS, ins, D.ints]) ?_
  rintro R i w hN hE hi hw
  have hwl : w.length = i := by rw [hw, List.length_take]; omega
  by_cases hlt : i < r.length
  · have hs : W.take (i + 1) = w ++ [(r.getD i 0 + (p - k) * row.getD i 0) % p] := by
      rw [take_succ 0 W i (by omega), hw, hget]
    have hri := hr.2 i
    have hvi := hv.2 i
    have hkb : 0 ≤ (p - k) * row.getD i 0 ∧ (p - k) * row.getD i 0 ≤ 25 := ⟨Int.mul_nonneg (by omega) hvi.1, Int.le_trans (Int.mul_le_mul (show p - k ≤ 5 by omega) (show row.getD i 0 ≤ 5 by omega) hvi.1 (by decide)) (by decide)⟩
    have em : (r.getD i 0 + (p - k) * row.getD i 0).tmod p = (r.getD i 0 + (p - k) * row.getD i 0) % p := Int.tmod_eq_emod_of_nonneg (by omega)
    clear hw
    simp (disch := first | omega | decide +kernel) only [em, go_sem, zqa, zqb, zqc, zqd, zqe, ↓reduceIte, reduceCtorEq, zqf, zqg, zqh]
    (repeat' (first | ((first | (refine gsel_split (fun q' => ?_) (fun q' => ?_) <;> (have h' := q') <;> (try simp only [decide_eq_true_eq, decide_eq_false_iff_not, zba, zbb, bne_iff_ne, ne_eq, beq_iff_eq, bne_eq_false_iff_eq, beq_eq_false_iff_ne, zia, zib, zic, zid, zda, zbc, zbd, zbe, gt_iff_lt, ge_iff_le] at h') <;> try (exfalso; omega)) | (have q' := trivial; first | refine hE _ _ ret_ne ?_ | refine hE _ _ exit_ne ?_)) <;> (try simp (disch := first | omega | decide +kernel) only [q', em, go_sem, zqa, zqb, zqc, zqd, zqe, ↓reduceIte, reduceCtorEq, zqf, zqg, zqh]) <;> clear q') | (refine hN _ ?_ ?_ Wk.kk) | (with_reducible refine And.intro ?_ ?_) | (with_reducible omega) | (exact ok_ints) | (exact cells_ints) | (exact no_mem) | (with_reducible exact plain_ints) | (refine le_maxLen ?_; omega) | (refine List.forall_mem_cons.2 ⟨?_, ?_⟩) | (simp only [go_sem, zqc, zqb, List.mem_cons, List.not_mem_nil, forall_eq]; done)))
    all_goals (first | omega | (refine hN (w ++ [(r.getD i 0 + (p - k) * row.getD i 0) % p]) _ hlt hs.symm (by refine Wk.auto ?_ ?_ <;> simp [extraK, lk, killL, St.kill, wipeO, wipeS, AV.has, AV.hasL, AO.wipe, List.map_set, updSt, insL, dropS, ins, D.ints, List.map_append, List.map_cons, List.map_nil]); done))
  · obtain rfl : i = r.length := by omega
    rw [← hlen, List.take_length] at hw
    subst hw
    simp (disch := first | omega | decide +kernel) only [go_sem, zqa, zqb, zqc, zqd, zqe, ↓reduceIte, reduceCtorEq, zqf, zqg, zqh]
    (repeat' (first | ((first | (refine gsel_split (fun q' => ?_) (fun q' => ?_) <;> (have h' := q') <;> (try simp only [decide_eq_true_eq, decide_eq_false_iff_not, zba, zbb, bne_iff_ne, ne_eq, beq_iff_eq, bne_eq_false_iff_eq, beq_eq_false_iff_ne, zia, zib, zic, zid, zda, zbc, zbd, zbe, gt_iff_lt, ge_iff_le] at h') <;> try (exfalso; omega)) | (have q' := trivial; first | refine hE _ _ ret_ne ?_ | refine hE _ _ exit_ne ?_)) <;> (try simp (disch := first | omega | decide +kernel) only [q', go_sem, zqa, zqb, zqc, zqd, zqe, ↓reduceIte, reduceCtorEq, zqf, zqg, zqh]) <;> clear q') | (refine hN _ ?_ ?_ Wk.kk) | (with_reducible refine And.intro ?_ ?_) | (with_reducible omega) | (exact ok_ints) | (exact cells_ints) | (exact no_mem) | (with_reducible exact plain_ints) | (refine le_maxLen ?_; omega) | (refine List.forall_mem_cons.2 ⟨?_, ?_⟩) | (simp only [go_sem, zqc, zqb, List.mem_cons, List.not_mem_nil, forall_eq]; done)))
    all_goals (first | omega | exact ret_sl 11 rfl rfl plain_ints)
end
theorem gradN_pw (n : Nat) (d : Int) (hn : n ≤ 64) : (gradN n d).Pairwise fun a b => kG a < kG b := by
  unfold gradN
  generalize (d + 1).toNat = k
  induction k with
  | zero => simp
  | succ k ih =>
    rw [List.range_succ, List.flatMap_append, List.pairwise_append]
    refine ⟨ih, ?_, fun a ha b hb => ?_⟩
    · simp only [List.flatMap_cons, List.flatMap_nil, List.append_nil]
      have h0 : ((List.range n).filter fun m => decide (cnt m = k)).Pairwise fun a b => a < b := List.Pairwise.filter _ List.pairwise_lt_range
      refine h0.imp_of_mem fun {a b} ha hb hab => ?_
      have h1 := List.mem_filter.1 ha
      have h2 := List.mem_filter.1 hb
      simp only [decide_eq_true_eq, List.mem_range] at h1 h2
      unfold kG; omega
    · simp only [List.flatMap_cons, List.flatMap_nil, List.append_nil, List.mem_flatMap, List.mem_range, List.mem_filter, decide_eq_true_eq] at ha hb
      obtain ⟨j, hj, ha1, ha2⟩ := ha
      unfold kG; omega
theorem pw_at {G : List Nat} (h : G.Pairwise fun a b => kG a < kG b) {i j : Nat} (hij : i < j) (hj : j < G.length) : kG (G.getD i 0) < kG (G.getD j 0) := by
  rw [List.pairwise_iff_getElem] at h
  have := h i j (by omega) hj hij
  simpa [List.getD_eq_getElem?_getD, hj, show i < G.length by omega] using this
theorem drop_mem {G : List Nat} {q : Nat} (hq : q < G.length) (i : Nat) : i ∈ G.drop q ↔ i ∈ G.drop (q + 1) ∨ i = G.getD q 0 := by
  rw [drop_cons 0 G q hq]
  simp only [List.mem_cons]
  exact or_comm
end Abs.Y

namespace Abs.Y
open Go Go.Proofs Abs
set_option maxRecDepth 100000

theorem idxR_bd (f : Nat → Bool) (n : Nat) : idxR f n = -1 ∨ ∃ k : Nat, idxR f n = k ∧ k < n ∧ f k = true := by
  unfold idxR
  cases h : (List.range n).find? f with
  | none => exact .inl rfl
  | some k => exact .inr ⟨k, rfl, List.mem_range.1 (List.mem_of_find?_eq_some h), List.find?_some h⟩
theorem idxR_succ (f : Nat → Bool) (n : Nat) : idxR f (n + 1) = if 0 ≤ idxR f n then idxR f n else if f n then (n : Int) else -1 := by
  unfold idxR
  rw [List.range_succ, List.find?_append]
  cases h : (List.range n).find? f with
  | none =>
    simp only [Option.none_or, List.find?_cons, List.find?_nil]
    cases hf : f n <;> simp
  | some k => simp
theorem idxR_all {f : Nat → Bool} {n : Nat} (h : idxR f n < 0) : ∀ j, j < n → f j = false := by
  unfold idxR at h
  cases hf : (List.range n).find? f with
  | none =>
    intro j hj
    have := (List.find?_eq_none.1 hf) j (List.mem_range.2 hj)
    simpa using this
  | some k => rw [hf] at h; exact absurd h (by simp)
theorem split_at {S : List (List Int)} {a : Nat} (h : a < S.length) : S = S.take a ++ S.getD a [] :: S.drop (a + 1) := by
  conv => lhs; rw [← List.take_append_drop a S]
  rw [drop_cons [] S a h]
def dualB (ask : Bool) (t : Bool) : Bool := ask && !t
end Abs.Y

namespace Abs.Y
open Go Go.Proofs Abs Go.Sort Go.Shelf Go.Lib Go.RowKit
set_option maxRecDepth 100000

theorem onesAll64_ok : Ctr Tryz.prog 95 [.int .u64 18446744073709551615] false (.d (.int .i64 64)) [] := by
  refine Ctr.of (n := 35) (rs := [.tmp 2]) Tryz.func95 rfl rfl Tryz.ntmps95 rfl rfl (by kernel_rfl) Tryz.checked.mixed ?_
  simp (disch := first | omega | decide +kernel) only [go_sem, zqa, zqb, zqc, zqd, zqe, ↓reduceIte, reduceCtorEq, zqf, zqg, zqh]
  (repeat' (first | ((first | (refine gsel_split (fun q' => ?_) (fun q' => ?_) <;> (have h' := q') <;> (try simp only [decide_eq_true_eq, decide_eq_false_iff_not, zba, zbb, bne_iff_ne, ne_eq, beq_iff_eq, bne_eq_false_iff_eq, beq_eq_false_iff_ne, zia, zib, zic, zid, zda, zbc, zbd, zbe, gt_iff_lt, ge_iff_le] at h') <;> try (exfalso; omega)) | (have q' := trivial; first | refine hE _ _ ret_ne ?_ | refine hE _ _ exit_ne ?_)) <;> (try simp (disch := first | omega | decide +kernel) only [q', go_sem, zqa, zqb, zqc, zqd, zqe, ↓reduceIte, reduceCtorEq, zqf, zqg, zqh]) <;> clear q') | (refine hN _ ?_ ?_ Wk.kk) | (with_reducible refine And.intro ?_ ?_) | (with_reducible omega) | (exact ok_ints) | (exact cells_ints) | (exact no_mem) | (with_reducible exact plain_ints) | (refine le_maxLen ?_; omega) | (refine List.forall_mem_cons.2 ⟨?_, ?_⟩) | (simp only [go_sem, zqc, zqb, List.mem_cons, List.not_mem_nil, forall_eq]; done)))
  all_goals (first | (refine congrArg (D.int .i64) ?_; decide +kernel))
theorem onesAll_ok : Ctr Tryz.prog 82 [.int .u64 18446744073709551615] false (.d (.int .i64 64)) [] := by
  have c1 := onesAll64_ok
  refine Ctr.of (n := 8) (rs := [.tmp 2]) Tryz.func82 rfl rfl Tryz.ntmps82 rfl rfl (by kernel_rfl) Tryz.checked.mixed ?_
  simp (disch := first | omega | decide +kernel) only [go_sem, zqa, zqb, zqc, zqd, zqe, ↓reduceIte, reduceCtorEq, zqf, zqg, zqh]
  (repeat' (first | ((first | (refine gsel_split (fun q' => ?_) (fun q' => ?_) <;> (have h' := q') <;> (try simp only [decide_eq_true_eq, decide_eq_false_iff_not, zba, zbb, bne_iff_ne, ne_eq, beq_iff_eq, bne_eq_false_iff_eq, beq_eq_false_iff_ne, zia, zib, zic, zid, zda, zbc, zbd, zbe, gt_iff_lt, ge_iff_le] at h') <;> try (exfalso; omega)) | (have q' := trivial; first | refine callX_new (c1) rfl (by decide) ?_ | refine callY_new (c1) rfl ?_ | refine hE _ _ ret_ne ?_ | refine hE _ _ exit_ne ?_)) <;> (try simp (disch := first | omega | decide +kernel) only [q', go_sem, zqa, zqb, zqc, zqd, zqe, ↓reduceIte, reduceCtorEq, zqf, zqg, zqh]) <;> clear q') | (refine hN _ ?_ ?_ Wk.kk) | (with_reducible refine And.intro ?_ ?_) | (with_reducible omega) | (exact ok_ints) | (exact cells_ints) | (exact no_mem) | (with_reducible exact plain_ints) | (refine le_maxLen ?_; omega) | (refine List.forall_mem_cons.2 ⟨?_, ?_⟩) | (simp only [go_sem, zqc, zqb, List.mem_cons, List.not_mem_nil, forall_eq]; done)))
  all_goals (first | omega)
theorem degreeOfNeg_ok : Ctr Tryz.prog 58 [.int .i64 (-1)] false (.d (.int .i64 64)) [] := by
  have e : IntKind.u64.wrap (-1) = 18446744073709551615 := by decide +kernel
  have c1 := onesAll_ok
  refine Ctr.of (n := 6) (rs := [.tmp 2]) Tryz.func58 rfl rfl Tryz.ntmps58 rfl rfl (by kernel_rfl) Tryz.checked.mixed ?_
  simp (disch := first | omega | decide +kernel) only [e, go_sem, zqa, zqb, zqc, zqd, zqe, ↓reduceIte, reduceCtorEq, zqf, zqg, zqh]
  (repeat' (first | ((first | (refine gsel_split (fun q' => ?_) (fun q' => ?_) <;> (have h' := q') <;> (try simp only [decide_eq_true_eq, decide_eq_false_iff_not, zba, zbb, bne_iff_ne, ne_eq, beq_iff_eq, bne_eq_false_iff_eq, beq_eq_false_iff_ne, zia, zib, zic, zid, zda, zbc, zbd, zbe, gt_iff_lt, ge_iff_le] at h') <;> try (exfalso; omega)) | (have q' := trivial; first | refine callX_new (c1) rfl (by decide) ?_ | refine callY_new (c1) rfl ?_ | refine hE _ _ ret_ne ?_ | refine hE _ _ exit_ne ?_)) <;> (try simp (disch := first | omega | decide +kernel) only [q', e, go_sem, zqa, zqb, zqc, zqd, zqe, ↓reduceIte, reduceCtorEq, zqf, zqg, zqh]) <;> clear q') | (refine hN _ ?_ ?_ Wk.kk) | (with_reducible refine And.intro ?_ ?_) | (with_reducible omega) | (exact ok_ints) | (exact cells_ints) | (exact no_mem) | (with_reducible exact plain_ints) | (refine le_maxLen ?_; omega) | (refine List.forall_mem_cons.2 ⟨?_, ?_⟩) | (simp only [go_sem, zqc, zqb, List.mem_cons, List.not_mem_nil, forall_eq]; done)))
  all_goals (first | omega)
def cI (v : List Int) : Int := if ldI v < 0 then 64 else cnt (ldG v)
theorem cI_facts {v : List Int} (hl : v.length ≤ 64) : (ldI v = -1 ∧ cI v = 64) ∨ (0 ≤ ldI v ∧ ldI v ≤ 63 ∧ 0 ≤ cI v ∧ cI v ≤ 6 ∧ ldI v = (ldG v : Nat) ∧ cI v = cnt (ldG v)) := by
  rcases ldI_or v with ⟨h1, _⟩ | ⟨h1, h2, _⟩
  · refine .inl ⟨h1, ?_⟩
    unfold cI; rw [h1]; rfl
  · refine .inr ⟨by omega, by omega, ?_⟩
    have := cnt_le (ldG v)
    have e : cI v = cnt (ldG v) := by unfold cI; rw [if_neg (by omega)]
    exact ⟨by omega, by omega, h1, e⟩
theorem degreeOfX_ok {v : List Int} (hl : v.length ≤ 64) : Ctr Tryz.prog 58 [.int .i64 (ldI v)] false (.d (.int .i64 (cI v))) [] := by
  rcases cI_facts hl with ⟨h1, h2⟩ | ⟨_, h1, _, _, h2, h3⟩
  · rw [h1, h2]; exact degreeOfNeg_ok
  · rw [h3, h2]; exact degreeOf_ok (by omega)
def cmpV (a b : List Int) : Int := orI (cmpI (cI a) (cI b)) (cmpI (ldI a) (ldI b))
def keyI (v : List Int) : Int := cI v * 64 + ldI v
theorem cmpV_lt {a b : List Int} (ha : a.length ≤ 64) (hb : b.length ≤ 64) : cmpV a b < 0 ↔ keyI a < keyI b := by
  have h1 := cI_facts ha
  have h2 := cI_facts hb
  unfold cmpV orI keyI
  rcases cmpI_or (cI a) (cI b) with ⟨h3, h4⟩ | ⟨h3, h4⟩ | ⟨h3, h4⟩
  · rw [h4, if_pos (by decide)]; constructor <;> intro h <;> omega
  · rw [h4, if_pos (by decide)]; constructor <;> intro h <;> omega
  · rw [h4, if_neg (by decide)]
    rcases cmpI_or (ldI a) (ldI b) with ⟨h5, h6⟩ | ⟨h5, h6⟩ | ⟨h5, h6⟩ <;> rw [h6] <;> constructor <;> intro h <;> omega
theorem compareMonosX_ok {a b : List Int} (ha : a.length ≤ 64) (hb : b.length ≤ 64) : Ctr Tryz.prog 31 [.int .i64 (ldI a), .int .i64 (ldI b)] false (.d (.int .i64 (cmpV a b))) [] := by
  have c1 := degreeOfX_ok ha
  have c2 := degreeOfX_ok hb
  have c3 := compare_ok (cI a) (cI b)
  have c4 := compare_ok (ldI a) (ldI b)
  have c5 := or_ok (cmpI (cI a) (cI b)) (cmpI (ldI a) (ldI b))
  have h1 := cI_facts ha
  have h2 := cI_facts hb
  unfold cmpV
  generalize cI a = x at *
  generalize cI b = y at *
  generalize ldI a = z at *
  generalize ldI b = w at *
  clear h1 h2
  refine Ctr.of (n := 15) (rs := [.tmp 4]) Tryz.func31 rfl rfl Tryz.ntmps31 rfl rfl (by kernel_rfl) Tryz.checked.mixed ?_
  simp (disch := first | omega | decide +kernel) only [go_sem, zqa, zqb, zqc, zqd, zqe, ↓reduceIte, reduceCtorEq, zqf, zqg, zqh]
  (repeat' (first | ((first | (refine gsel_split (fun q' => ?_) (fun q' => ?_) <;> (have h' := q') <;> (try simp only [decide_eq_true_eq, decide_eq_false_iff_not, zba, zbb, bne_iff_ne, ne_eq, beq_iff_eq, bne_eq_false_iff_eq, beq_eq_false_iff_ne, zia, zib, zic, zid, zda, zbc, zbd, zbe, gt_iff_lt, ge_iff_le] at h') <;> try (exfalso; omega)) | (have q' := trivial; first | refine callX_new (c1) rfl (by decide) ?_ | refine callY_new (c1) rfl ?_ | refine callX_new (c2) rfl (by decide) ?_ | refine callY_new (c2) rfl ?_ | refine callX_new (c3) rfl (by decide) ?_ | refine callY_new (c3) rfl ?_ | refine callX_new (c4) rfl (by decide) ?_ | refine callY_new (c4) rfl ?_ | refine callX_new (c5) rfl (by decide) ?_ | refine callY_new (c5) rfl ?_ | refine hE _ _ ret_ne ?_ | refine hE _ _ exit_ne ?_)) <;> (try simp (disch := first | omega | decide +kernel) only [q', go_sem, zqa, zqb, zqc, zqd, zqe, ↓reduceIte, reduceCtorEq, zqf, zqg, zqh]) <;> clear q') | (refine hN _ ?_ ?_ Wk.kk) | (with_reducible refine And.intro ?_ ?_) | (with_reducible omega) | (exact ok_ints) | (exact cells_ints) | (exact no_mem) | (with_reducible exact plain_ints) | (refine le_maxLen ?_; omega) | (refine List.forall_mem_cons.2 ⟨?_, ?_⟩) | (simp only [go_sem, zqc, zqb, List.mem_cons, List.not_mem_nil, forall_eq]; done)))
  all_goals (first | omega | rfl)
theorem cmpSpan_ok {a b : List Int} (ha : a.length ≤ 64) (hb : b.length ≤ 64) : Ctr Tryz.prog 30 [.ints a, .ints b] false (.d (.int .i64 (cmpV a b))) [] := by
  have c1 := leading_ok ha
  have c2 := leading_ok hb
  have c3 := compareMonosX_ok ha hb
  generalize ldI a = x at *
  generalize ldI b = y at *
  generalize cmpV a b = z at *
  refine Ctr.of (n := 10) (rs := [.tmp 4]) Tryz.func30 rfl rfl Tryz.ntmps30 rfl rfl (by kernel_rfl) Tryz.checked.mixed ?_
  simp (disch := first | omega | decide +kernel) only [D.ints, go_sem, zqa, zqb, zqc, zqd, zqe, ↓reduceIte, reduceCtorEq, zqf, zqg, zqh]
  (repeat' (first | ((first | (refine gsel_split (fun q' => ?_) (fun q' => ?_) <;> (have h' := q') <;> (try simp only [decide_eq_true_eq, decide_eq_false_iff_not, zba, zbb, bne_iff_ne, ne_eq, beq_iff_eq, bne_eq_false_iff_eq, beq_eq_false_iff_ne, zia, zib, zic, zid, zda, zbc, zbd, zbe, gt_iff_lt, ge_iff_le] at h') <;> try (exfalso; omega)) | (have q' := trivial; first | refine callX_new (c1) rfl (by decide) ?_ | refine callY_new (c1) rfl ?_ | refine callX_new (c2) rfl (by decide) ?_ | refine callY_new (c2) rfl ?_ | refine callX_new (c3) rfl (by decide) ?_ | refine callY_new (c3) rfl ?_ | refine hE _ _ ret_ne ?_ | refine hE _ _ exit_ne ?_)) <;> (try simp (disch := first | omega | decide +kernel) only [q', D.ints, go_sem, zqa, zqb, zqc, zqd, zqe, ↓reduceIte, reduceCtorEq, zqf, zqg, zqh]) <;> clear q') | (refine hN _ ?_ ?_ Wk.kk) | (with_reducible refine And.intro ?_ ?_) | (with_reducible omega) | (exact ok_ints) | (exact cells_ints) | (exact no_mem) | (with_reducible exact plain_ints) | (refine le_maxLen ?_; omega) | (refine List.forall_mem_cons.2 ⟨?_, ?_⟩) | (simp only [go_sem, zqc, zqb, List.mem_cons, List.not_mem_nil, forall_eq]; done)))
  all_goals (first | omega)
def cfV (R : List (List Int)) (i j : Nat) : Int := cmpV (R.getD i []) (R.getD j [])
theorem len_getD {R : List (List Int)} (hl : ∀ x ∈ R, x.length ≤ 64) (i : Nat) : (R.getD i []).length ≤ 64 := by
  by_cases h : i < R.length
  · exact hl _ (getD_mem h)
  · rw [List.getD_eq_getElem?_getD, List.getElem?_eq_none (by omega)]; simp
theorem cfV_lt {R : List (List Int)} (hl : ∀ x ∈ R, x.length ≤ 64) (i j : Nat) : ltOf (cfV R) i j = decide (keyI (R.getD i []) < keyI (R.getD j [])) :=
  decide_eq_decide.2 (cmpV_lt (len_getD hl i) (len_getD hl j))
theorem cfV_swo {R : List (List Int)} (hl : ∀ x ∈ R, x.length ≤ 64) : SWO (ltOf (cfV R)) where
  irrefl i := by rw [cfV_lt hl]; simp
  trans i j k h1 h2 := by
    rw [cfV_lt hl] at *
    simp only [decide_eq_true_eq] at *
    omega
  ntrans i j k h1 h2 := by
    rw [cfV_lt hl] at *
    simp only [decide_eq_false_iff_not] at *
    omega
def sortV (R : List (List Int)) (L : Nat) : List (List Int) := (pdq (ltOf (cfV R)) (Array.range R.length) 0 R.length L true true).toList.map (fun i => R.getD i [])
theorem range_map_getV (cs : List (List Int)) : (List.range cs.length).map (fun i => cs.getD i []) = cs := by
  apply List.ext_getElem (by simp)
  intro i h1 h2
  simp [List.getD_eq_getElem?_getD, h2]
theorem pdqV {R : List (List Int)} (hl : ∀ x ∈ R, x.length ≤ 64) (L : Nat) : let d' := pdq (ltOf (cfV R)) (Array.range R.length) 0 R.length L true true
    d'.size = R.length ∧ (d'.toList.Perm (List.range R.length)) ∧ ∀ i j, i < j → j < R.length → ltOf (cfV R) d'[j]! d'[i]! = false := by
  intro d'
  have hps := pdq_sorts (ltOf (cfV R)) (cfV_swo hl) (Array.range R.length) 0 (Array.range R.length).size L true true (Nat.zero_le _) (Nat.le_refl _) (Or.inl rfl)
  simp only [Array.size_range] at hps
  change _ ∧ _ at hps
  obtain ⟨hp, hso⟩ := hps
  obtain ⟨hp1, _, hp3⟩ := hp
  change d'.size = _ at hp1
  simp only [Array.size_range] at hp1
  have hx1 : d'.extract 0 R.length = d' := by rw [← hp1]; simp
  have hx2 : (Array.range R.length).extract 0 R.length = Array.range R.length := by
    have : (Array.range R.length).size = R.length := by simp
    conv => lhs; rw [← this]
    simp
  change (d'.extract 0 R.length).toList.Perm _ at hp3
  rw [hx1, hx2, Array.toList_range] at hp3
  exact ⟨hp1, hp3, fun i j hij hj => hso i j (Nat.zero_le _) hij hj⟩
theorem sortV_perm {R : List (List Int)} (hl : ∀ x ∈ R, x.length ≤ 64) (L : Nat) : (sortV R L).Perm R := by
  have := (pdqV hl L).2.1.map fun i => R.getD i []
  rwa [range_map_getV] at this
theorem sortV_length {R : List (List Int)} (hl : ∀ x ∈ R, x.length ≤ 64) (L : Nat) : (sortV R L).length = R.length := (sortV_perm hl L).length_eq
theorem bitsLenV_ok (n : Nat) (hn : n ≤ 4294967296) : Ctr Tryz.prog 55 [.int .u64 (n : Int)] false (.d (.int .i64 (Lib.bitLen n : Nat))) [] := by
  refine ⟨⟨_, Tryz.func55, by kernel_rfl, by kernel_rfl⟩, fun S w vs hl hr => ?_⟩
  obtain ⟨v, rfl⟩ : ∃ v, vs = [v] := by
    match vs, hl with
    | [a], _ => exact ⟨a, rfl⟩
  have h := hr 0 (by simp)
  simp only [List.getD_cons_zero] at h
  cases h
  refine (Tryz.len_w n hn w).mono fun en w' ⟨he, hw⟩ => ⟨_, he, ?_, ?_⟩
  · subst hw; exact ⟨rfl, rfl, rfl, Nat.le_refl _, Nat.le_refl _, fun _ _ _ => rfl, Nat.le_refl _⟩
  · exact ⟨fun _ => Go.undef, fun _ _ => False, .d (.int _ _), fun j o hj => by simp [lk] at hj, fun j o g hj => by simp [lk] at hj, fun j j' o o' g hj hj' => by simp [lk] at hj⟩
theorem pdqV_ok (R : List (List Int)) (L : Nat) (hL : L ≤ 4294967296) (hn : R.length ≤ 4294967296) (hl : ∀ x ∈ R, x.length ≤ 64) :
    CtrM Tryz.prog 54 [.sl 0, .d (.int .i64 0), .d (.int .i64 (R.length : Nat)), .d (.int .i64 (L : Nat)), .fn (.func 30) []] [(0, .arr 56 1 (R.map D.ints))] [0] true (.tup []) [(0, .arr 56 1 ((sortV R L).map D.ints))] := by
  have hone : ∀ x ∈ R.map D.ints, x.one = true := fun x hx => by obtain ⟨c, _, rfl⟩ := List.mem_map.1 hx; rfl
  refine CtrM.rowD (es := R.map D.ints) (es' := (sortV R L).map D.ints) (.slice none 0 0) false ⟨_, Tryz.func54, by kernel_rfl, by kernel_rfl⟩ hone (by simp [sortV_length hl]) (fun _ => by simp [sortV_length hl]) fun S β w rv hl' hr => ?_
  obtain ⟨v0, v1, v2, v3, rfl⟩ : ∃ v0 v1 v2 v3, rv = [v0, v1, v2, v3] := by
    match rv, hl' with
    | [a, b, c, d], _ => exact ⟨a, b, c, d, rfl⟩
  have e0 : v0 = .int .i64 0 := by
    have := hr 0 (by simp)
    simp only [List.getD_cons_zero] at this
    cases this with
    | d h => cases h; rfl
  have e1 : v1 = .int .i64 (R.length : Nat) := by
    have := hr 1 (by simp)
    simp only [List.getD_cons_zero, List.getD_cons_succ] at this
    cases this with
    | d h => cases h; rfl
  have e2 : v2 = .int .i64 (L : Nat) := by
    have := hr 2 (by simp)
    simp only [List.getD_cons_zero, List.getD_cons_succ] at this
    cases this with
    | d h => cases h; rfl
  have e3 : v3 = .func (.func 30) #[] #[] := by
    have := hr 3 (by simp)
    simp only [List.getD_cons_zero, List.getD_cons_succ] at this
    cases this with
    | fn h1 h2 => obtain rfl := List.eq_nil_of_length_eq_zero h1; rfl
  subst e0 e1 e2 e3
  refine ⟨fun h => ?_, fun g cap xs hS hxl hxr hH hg hcap _ => ?_⟩
  · have h0 : R.length = 0 := by simpa using h
    rw [h0]
    exact AnyF.pdqsortCmpFunc_none { Tryz.layQ with } none 0 L _ w
  have eg : ∀ args w, (callFunc 30 args).run Tryz.prog w = .ok (.enter 30 args) w := enters_of Tryz.func30 (by kernel_rfl) rfl
  have hgd : ∀ i, (R.map D.ints).getD i (D.ints []) = D.ints (R.getD i []) := fun i => by
    simp only [List.getD_eq_getElem?_getD, List.getElem?_map]
    cases R[i]? <;> rfl
  have hc : CmpLays1 Tryz.prog 30 #[] (mkR (.slice none 0 0) xs) (cfV R) g 0 (Array.range (R.map D.ints).length).size w :=
    Ctr.cmpLays (es := R.map D.ints) (zd := D.ints []) (fun w => .nil _) (fun i j => by
      rw [hgd, hgd]; exact cmpSpan_ok (len_getD hl i) (len_getD hl j)) hS hxl hxr
  have h := Any.pdqsortCmpFunc_all Tryz.layQ (mkR (.slice none 0 0) xs) (cfV R) 30 #[] (cfV_swo hl) g 0 cap (Array.range (R.map D.ints).length) w eg hc ⟨mkR_one rfl hone hxl hxr, hH, hg⟩
    ((Array.range (R.map D.ints).length).size + 1) 0 (Array.range (R.map D.ints).length).size L (Array.range (R.map D.ints).length) w (by omega) rfl (SW.start hH) (Nat.zero_le _) (Nat.le_refl _) (by simp; omega) (by omega) (Or.inl rfl)
  obtain ⟨p1, p2, _⟩ := pdqV hl L
  simp only [Array.size_range, List.length_map] at h ⊢
  have hsv : (pdq (ltOf (cfV R)) (Array.range R.length) 0 R.length L true true).toList.map (fun i => R.getD i []) = sortV R L := rfl
  generalize pdq (ltOf (cfV R)) (Array.range R.length) 0 R.length L true true = d' at *
  refine Calls.mono h fun en w' ⟨he, n, os, hw⟩ => ⟨he, n, d', os, ?_, hw⟩
  have htake : d'.toList.take ((sortV R L).map D.ints).length = d'.toList := by
    rw [List.length_map, sortV_length hl, ← p1, ← Array.length_toList, List.take_length]
  refine ⟨by simp [p1], by simp [p1, sortV_length hl], fun i hi => ?_, ?_⟩
  · rw [htake] at hi
    have := p2.mem_iff.1 hi
    simpa using this
  · rw [htake, ← hsv, List.map_map]
    apply List.map_congr_left
    intro i hi
    have : i < R.length := by have := p2.mem_iff.1 hi; simpa using this
    simp [List.getD_eq_getElem?_getD, this]
theorem sortRows_ok (R : List (List Int)) (hn : R.length ≤ 4294967296) (hl : ∀ x ∈ R, x.length ≤ 64) :
    CtrM Tryz.prog 29 [.sl 0, .fn (.func 30) []] [(0, .arr 56 1 (R.map D.ints))] [0] true (.tup []) [(0, .arr 56 1 ((sortV R (Lib.bitLen R.length)).map D.ints))] := by
  have c1 := bitsLenV_ok R.length hn
  have hb : Lib.bitLen R.length ≤ 4294967296 := Nat.le_trans (Lib.bitLen_le R.length 62 (by omega) (by omega)) (by omega)
  have c2 := pdqV_ok R (Lib.bitLen R.length) hb hn hl
  have hw : IntKind.u64.wrap (R.length : Int) = (R.length : Nat) := by simp [IntKind.wrap, IntKind.bits, IntKind.signed]; omega
  refine CtrM.of (n := 14) (rs := []) Tryz.func29 rfl rfl Tryz.ntmps29 rfl rfl (by kernel_rfl) Tryz.checked.mixed ?_; intro u
  simp (disch := first | omega | decide +kernel) only [hw, go_sem, zqa, zqb, zqc, zqd, zqe, ↓reduceIte, reduceCtorEq, zqf, zqg, zqh]
  (repeat' (first | ((first | (refine gsel_split (fun q' => ?_) (fun q' => ?_) <;> (have h' := q') <;> (try simp only [decide_eq_true_eq, decide_eq_false_iff_not, zba, zbb, bne_iff_ne, ne_eq, beq_iff_eq, bne_eq_false_iff_eq, beq_eq_false_iff_ne, zia, zib, zic, zid, zda, zbc, zbd, zbe, gt_iff_lt, ge_iff_le] at h')) | (have q' := trivial; first | refine callX_new (c1) rfl (by decide) ?_ | refine callY_new (c1) rfl ?_ | refine hE _ _ ret_ne ?_ | refine hE _ _ exit_ne ?_)) <;> (try simp (disch := first | omega | decide +kernel) only [q', hw, go_sem, zqa, zqb, zqc, zqd, zqe, ↓reduceIte, reduceCtorEq, zqf, zqg, zqh]) <;> clear q') | (refine hN _ ?_ ?_ Wk.kk) | (with_reducible refine And.intro ?_ ?_) | (with_reducible omega) | (exact ok_ints) | (exact cells_ints) | (exact no_mem) | (with_reducible exact plain_ints) | (refine le_maxLen ?_; omega) | (refine List.forall_mem_cons.2 ⟨?_, ?_⟩) | (simp only [go_sem, zqc, zqb, List.mem_cons, List.not_mem_nil, forall_eq]; done)))
  refine callX_shareK 0 c2 ⟨.inl rfl, .inl rfl, .inl rfl, .inl rfl, .inl rfl, trivial⟩ rfl (by simp [dstB]) ?_
  simp (disch := first | omega | decide +kernel) only [hw, go_sem, zqa, zqb, zqc, zqd, zqe, ↓reduceIte, reduceCtorEq, zqf, zqg, zqh]
  exact retM_n rfl rfl rfl (.inl rfl)
end Abs.Y
