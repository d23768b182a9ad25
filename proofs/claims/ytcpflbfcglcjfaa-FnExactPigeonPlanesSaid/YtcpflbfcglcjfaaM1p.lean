/- What functions of this program compute, as contracts over plain data, with what the proofs need of them. No condition. -/
import Derived.Test.YtcpflbfcglcjfaaK0
import Derived.Test.YtcpflbfcglcjfaaAbsOwn
import Derived.Test.YtcpflbfcglcjfaaL2
set_option linter.all false
namespace Abs.Y
open Go Go.Proofs Abs
open Nat renaming reduceEqDiff → zqa, reduceLT → zqb, reduceAdd → zqc, reduceMul → zqd, reduceSub → zqe, reduceLeDiff → zqf, reduceSubDiff → zqg, reduceBEq → zqh
open Bool renaming not_eq_true' → zba, not_eq_false' → zbb, and_eq_true → zbc, or_eq_true → zbd, or_eq_false_iff → zbe
open Int renaming ofNat_lt → zia, ofNat_le → zib, not_lt → zic, not_le → zid
open Decidable renaming not_not → zda
set_option maxRecDepth 100000

theorem markIntS_ok (τ : Option (TypeId × Nat)) (a : List Int) (k : Int) (h0 : 0 ≤ k) (h1 : k + a.length ≤ 9000000000000000000) :
    CtrM Try.prog 44 [.sl 0, .d (.int .i64 k)] [(0, .dp τ (a.map (.int .i64)) none)] [0] false (.d (.int .i64 (k + a.length))) [(0, .dp τ ((cntI k a.length).map (.int .i64)) none)] := by
  refine CtrM.of (n := 19) (rs := [.tmp 4]) Try.func44 rfl rfl Try.ntmps44 rfl rfl (by kernel_rfl) Try.checked.mixed ?_; intro u
  simp (disch := first | omega | decide +kernel) only [go_sem, zqa, zqb, zqc, zqd, zqe, ↓reduceIte, reduceCtorEq, zqf, zqg, zqh]
  refine Ok.loopN [17, 16, 15, 14, 13, 12, 11, 10, 9, 8, 7, 6, 5, 3, 2, 1] (fun i _ => [(5, .d (.int .i64 (i : Nat))), (1, .d (.int .i64 (k + (i : Nat))))]) (fun _ (cur : List Int) => [(0, .dp τ (List.map (D.int .i64) cur) none)]) a.length
    (fun i cur => cur.length = a.length ∧ ∀ j, j < i → cur.getD j 0 = k + j) a ⟨rfl, by simp⟩ (Wk.kk) ?_
  rintro R i cur hN hE hi ⟨hcl, hcur⟩
  simp (disch := first | omega | decide +kernel) only [go_sem, zqa, zqb, zqc, zqd, zqe, ↓reduceIte, reduceCtorEq, zqf, zqg, zqh]
  by_cases hlt : i < a.length
  · have hlc : i < cur.length := by omega
    (repeat' (first | ((first | (refine gsel_split (fun q' => ?_) (fun q' => ?_) <;> (have h' := q') <;> (try simp only [decide_eq_true_eq, decide_eq_false_iff_not, zba, zbb, bne_iff_ne, ne_eq, beq_iff_eq, bne_eq_false_iff_eq, beq_eq_false_iff_ne, zia, zib, zic, zid, zda, zbc, zbd, zbe, gt_iff_lt, ge_iff_le] at h')) | (have q' := trivial; first | refine hE _ _ ret_ne ?_ | refine hE _ _ exit_ne ?_)) <;> (try simp (disch := first | omega | decide +kernel) only [q', go_sem, zqa, zqb, zqc, zqd, zqe, ↓reduceIte, reduceCtorEq, zqf, zqg, zqh]) <;> clear q') | (refine hN _ ?_ ?_ Wk.kk) | (with_reducible refine And.intro ?_ ?_) | (with_reducible omega) | (exact ok_ints) | (exact cells_ints) | (exact no_mem) | (with_reducible exact plain_ints) | (refine le_maxLen ?_; omega) | (refine List.forall_mem_cons.2 ⟨?_, ?_⟩) | (simp only [go_sem, zqc, zqb, List.mem_cons, List.not_mem_nil, forall_eq]; done)))

    · refine hN (cur.set i (k + i)) _ hlt ⟨by simp [hcl], fun j hj => ?_⟩ (by refine Wk.auto ?_ ?_ <;> simp [extraK, lk, killL, St.kill, wipeO, wipeS, AV.has, AV.hasL, AO.wipe, List.map_set, updSt, insL, dropS, ins, Int.add_assoc])
      rw [set_getDz 0 _ _ _ _ hlc]
      by_cases e : j = i
      · subst e; simp
      · rw [if_neg e]; exact hcur j (by omega)
  · (repeat' (first | ((first | (refine gsel_split (fun q' => ?_) (fun q' => ?_) <;> (have h' := q') <;> (try simp only [decide_eq_true_eq, decide_eq_false_iff_not, zba, zbb, bne_iff_ne, ne_eq, beq_iff_eq, bne_eq_false_iff_eq, beq_eq_false_iff_ne, zia, zib, zic, zid, zda, zbc, zbd, zbe, gt_iff_lt, ge_iff_le] at h')) | (have q' := trivial; first | refine hE _ _ ret_ne ?_ | refine hE _ _ exit_ne ?_)) <;> (try simp (disch := first | omega | decide +kernel) only [q', go_sem, zqa, zqb, zqc, zqd, zqe, ↓reduceIte, reduceCtorEq, zqf, zqg, zqh]) <;> clear q') | (refine hN _ ?_ ?_ Wk.kk) | (with_reducible refine And.intro ?_ ?_) | (with_reducible omega) | (exact ok_ints) | (exact cells_ints) | (exact no_mem) | (with_reducible exact plain_ints) | (refine le_maxLen ?_; omega) | (refine List.forall_mem_cons.2 ⟨?_, ?_⟩) | (simp only [go_sem, zqc, zqb, List.mem_cons, List.not_mem_nil, forall_eq]; done)))
    · obtain rfl : cur = cntI k a.length := ext_getDz 0 (by rw [cntI_len]; exact hcl) fun j hj => by rw [hcur j (by omega), cntI_getD _ _ _ (by omega)]
      obtain rfl : i = a.length := by omega
      exact retM_d rfl rfl rfl rfl trivial rfl
theorem heldIntS_ok (n : Nat) (k : Int) (h0 : 0 ≤ k) (h1 : k + n ≤ 9000000000000000000) :
    Ctr Try.prog 45 [.slice ((cntI k n).map (.int .i64)), .int .i64 k] false (.d (.int .i64 (k + n))) [] := by
  have hlen := cntI_len n k
  refine Ctr.of (n := 21) (rs := [.tmp 4]) Try.func45 rfl rfl Try.ntmps45 rfl rfl (by kernel_rfl) Try.checked.mixed ?_
  simp (disch := first | omega | decide +kernel) only [cntI_len, go_sem, zqa, zqb, zqc, zqd, zqe, ↓reduceIte, reduceCtorEq, zqf, zqg, zqh]
  refine Ok.loopN [19, 18, 17, 16, 15, 14, 13, 12, 11, 10, 9, 8, 7, 6, 5, 4, 3, 2, 1] (fun i _ => [(5, .d (.int .i64 (i : Nat))), (1, .d (.int .i64 (k + (i : Nat))))]) (fun _ (_ : Unit) => []) n (fun i _ => True) () trivial (Wk.kk) ?_
  rintro R i _ hN hE hi _
  simp (disch := first | omega | decide +kernel) only [cntI_len, go_sem, zqa, zqb, zqc, zqd, zqe, ↓reduceIte, reduceCtorEq, zqf, zqg, zqh]
  by_cases hlt : i < n
  · have hg := cntI_getD n k i hlt
    (repeat' (first | ((first | (refine gsel_split (fun q' => ?_) (fun q' => ?_) <;> (have h' := q') <;> (try simp only [decide_eq_true_eq, decide_eq_false_iff_not, zba, zbb, bne_iff_ne, ne_eq, beq_iff_eq, bne_eq_false_iff_eq, beq_eq_false_iff_ne, zia, zib, zic, zid, zda, zbc, zbd, zbe, gt_iff_lt, ge_iff_le] at h')) | (have q' := trivial; first | refine hE _ _ ret_ne ?_ | refine hE _ _ exit_ne ?_)) <;> (try simp (disch := first | omega | decide +kernel) only [q', cntI_len, hg, go_sem, zqa, zqb, zqc, zqd, zqe, ↓reduceIte, reduceCtorEq, zqf, zqg, zqh]) <;> clear q') | (refine hN _ ?_ ?_ Wk.kk) | (with_reducible refine And.intro ?_ ?_) | (with_reducible omega) | (exact ok_ints) | (exact cells_ints) | (exact no_mem) | (with_reducible exact plain_ints) | (refine le_maxLen ?_; omega) | (refine List.forall_mem_cons.2 ⟨?_, ?_⟩) | (simp only [go_sem, zqc, zqb, List.mem_cons, List.not_mem_nil, forall_eq]; done)))
    all_goals (first | omega | skip)
    all_goals (first | exact absurd trivial h' | (refine hN () _ hlt trivial (by refine Wk.auto ?_ ?_ <;> simp [extraK, lk, killL, St.kill, wipeO, wipeS, AV.has, AV.hasL, AO.wipe, List.map_set, updSt, insL, dropS, ins, Int.add_assoc]); done))
  · obtain rfl : i = n := by omega
    (repeat' (first | ((first | (refine gsel_split (fun q' => ?_) (fun q' => ?_) <;> (have h' := q') <;> (try simp only [decide_eq_true_eq, decide_eq_false_iff_not, zba, zbb, bne_iff_ne, ne_eq, beq_iff_eq, bne_eq_false_iff_eq, beq_eq_false_iff_ne, zia, zib, zic, zid, zda, zbc, zbd, zbe, gt_iff_lt, ge_iff_le] at h')) | (have q' := trivial; first | refine hE _ _ ret_ne ?_ | refine hE _ _ exit_ne ?_)) <;> (try simp (disch := first | omega | decide +kernel) only [q', cntI_len, go_sem, zqa, zqb, zqc, zqd, zqe, ↓reduceIte, reduceCtorEq, zqf, zqg, zqh]) <;> clear q') | (refine hN _ ?_ ?_ Wk.kk) | (with_reducible refine And.intro ?_ ?_) | (with_reducible omega) | (exact ok_ints) | (exact cells_ints) | (exact no_mem) | (with_reducible exact plain_ints) | (refine le_maxLen ?_; omega) | (refine List.forall_mem_cons.2 ⟨?_, ?_⟩) | (simp only [go_sem, zqc, zqb, List.mem_cons, List.not_mem_nil, forall_eq]; done)))
    all_goals (first | omega)
end Abs.Y

namespace Abs.Y
open Go Go.Proofs Abs
open Nat renaming reduceEqDiff → zqa, reduceLT → zqb, reduceAdd → zqc, reduceMul → zqd, reduceSub → zqe, reduceLeDiff → zqf, reduceSubDiff → zqg, reduceBEq → zqh
open Bool renaming not_eq_true' → zba, not_eq_false' → zbb, and_eq_true → zbc, or_eq_true → zbd, or_eq_false_iff → zbe
open Int renaming ofNat_lt → zia, ofNat_le → zib, not_lt → zic, not_le → zid
open Decidable renaming not_not → zda
set_option maxRecDepth 100000

end Abs.Y
