/- What functions of this program compute, as contracts over plain data, with what the proofs need of them. No condition. -/
import Derived.Test.YtoppjihdipidiaaV19
import Derived.Test.YtoppjihdipidiaaK0
import Derived.Test.YtoppjihdipidiaaV2
import Derived.Test.YtoppjihdipidiaaV18
set_option linter.all false
namespace Abs.Y
open Go Go.Proofs Abs
open Nat renaming reduceEqDiff → zqa, reduceLT → zqb, reduceAdd → zqc, reduceMul → zqd, reduceSub → zqe, reduceLeDiff → zqf, reduceSubDiff → zqg, reduceBEq → zqh
open Bool renaming not_eq_true' → zba, not_eq_false' → zbb, and_eq_true → zbc, or_eq_true → zbd, or_eq_false_iff → zbe
open Int renaming ofNat_lt → zia, ofNat_le → zib, not_lt → zic, not_le → zid
open Decidable renaming not_not → zda
set_option maxRecDepth 100000

theorem toTermS_ok (a : List Tm) (hl : a.length ≤ 4294967296) : Ctr Try.prog 49 [D.tms a] true (.sl 0) [(0, .arr 124 2 (a.map D.tm))] := by
  refine Ctr.of (n := 23) (rs := [.tmp 2]) Try.func49 rfl rfl Try.ntmps49 rfl rfl (by kernel_rfl) Try.checked.mixed ?_
  simp (disch := first | omega | decide +kernel) only [go_sem, zqa, zqb, zqc, zqd, zqe, ↓reduceIte, reduceCtorEq, zqf, zqg, zqh]
  refine ⟨by omega, ?_⟩
  rw [show List.replicate a.length (D.agg [.int .i64 0, .int .i64 0]) = (List.replicate a.length ((0, 0) : Tm)).map D.tm by simp]
  refine Ok.loopN [21, 20, 19, 18, 17, 16, 15, 14, 13, 12, 11, 10, 9, 8, 7, 6, 5, 4, 1] (fun i _ => [(4, .d (.int .i64 (i : Nat)))]) (fun _ (cur : List Tm) => [(7, .arr 124 2 (List.map D.tm cur))]) a.length
    (fun i cur => cur.length = a.length ∧ ∀ j, j < i → cur.getD j (0, 0) = a.getD j (0, 0)) (List.replicate a.length (0, 0)) ⟨by simp, by simp⟩ (Wk.kk) ?_
  rintro R i cur hN hE hi ⟨hcl, hcur⟩
  by_cases hlt : i < a.length
  · have hei := el_tm hlt
    have hlc : i < cur.length := by omega
    have hc := toTerm_ok (a.getD i (0, 0))
    simp (disch := first | omega | decide +kernel) only [hei, go_sem, zqa, zqb, zqc, zqd, zqe, ↓reduceIte, reduceCtorEq, zqf, zqg, zqh]
    (repeat' (first | ((first | (refine gsel_split (fun q' => ?_) (fun q' => ?_) <;> (have h' := q') <;> (try simp only [decide_eq_true_eq, decide_eq_false_iff_not, zba, zbb, bne_iff_ne, ne_eq, beq_iff_eq, bne_eq_false_iff_eq, beq_eq_false_iff_ne, zia, zib, zic, zid, zda, zbc, zbd, zbe, gt_iff_lt, ge_iff_le] at h')) | (have q' := trivial; first | refine callX_shared (hc) rfl (by decide) ?_ | refine callY_shared (hc) rfl ?_ | refine hE _ _ ret_ne ?_ | refine hE _ _ exit_ne ?_)) <;> (try simp (disch := first | omega | decide +kernel) only [q', hei, go_sem, zqa, zqb, zqc, zqd, zqe, ↓reduceIte, reduceCtorEq, zqf, zqg, zqh]) <;> clear q') | (refine hN _ ?_ ?_ Wk.kk) | (with_reducible refine And.intro ?_ ?_) | (with_reducible omega) | (exact ok_ints) | (exact cells_ints) | (exact no_mem) | (with_reducible exact plain_ints) | (refine le_maxLen ?_; omega) | (refine List.forall_mem_cons.2 ⟨?_, ?_⟩) | (simp only [go_sem, zqc, zqb, List.mem_cons, List.not_mem_nil, forall_eq]; done)))
    all_goals (first | (rw [ok_agg]; simp [D.atom]; done) | skip)
    all_goals (first | (simp [D.cells, D.ok, D.atom, D.isAgg]; done) | skip)
    · refine hN (cur.set i (a.getD i (0, 0))) _ hlt ⟨by simp [hcl], fun j hj => ?_⟩ (by refine Wk.auto ?_ ?_ <;> simp [extraK, lk, killL, St.kill, wipeO, wipeS, AV.has, AV.hasL, AO.wipe, List.map_set, updSt, insL, dropS, ins, ])
      rw [set_getDz (0, 0) _ _ _ _ hlc]
      by_cases e : j = i
      · subst e; simp
      · rw [if_neg e]; exact hcur j (by omega)
  · simp (disch := first | omega | decide +kernel) only [go_sem, zqa, zqb, zqc, zqd, zqe, ↓reduceIte, reduceCtorEq, zqf, zqg, zqh]
    (repeat' (first | ((first | (refine gsel_split (fun q' => ?_) (fun q' => ?_) <;> (have h' := q') <;> (try simp only [decide_eq_true_eq, decide_eq_false_iff_not, zba, zbb, bne_iff_ne, ne_eq, beq_iff_eq, bne_eq_false_iff_eq, beq_eq_false_iff_ne, zia, zib, zic, zid, zda, zbc, zbd, zbe, gt_iff_lt, ge_iff_le] at h')) | (have q' := trivial; first | refine hE _ _ ret_ne ?_ | refine hE _ _ exit_ne ?_)) <;> (try simp (disch := first | omega | decide +kernel) only [q', go_sem, zqa, zqb, zqc, zqd, zqe, ↓reduceIte, reduceCtorEq, zqf, zqg, zqh]) <;> clear q') | (refine hN _ ?_ ?_ Wk.kk) | (with_reducible refine And.intro ?_ ?_) | (with_reducible omega) | (exact ok_ints) | (exact cells_ints) | (exact no_mem) | (with_reducible exact plain_ints) | (refine le_maxLen ?_; omega) | (refine List.forall_mem_cons.2 ⟨?_, ?_⟩) | (simp only [go_sem, zqc, zqb, List.mem_cons, List.not_mem_nil, forall_eq]; done)))
    · obtain rfl : cur = a := ext_getDz (0, 0) hcl fun j hj => hcur j (by omega)
      exact ret_sls 7 rfl rfl
theorem eqTermS_ok (a b : List Tm) (hl : a.length ≤ 4294967296) : Ctr Try.prog 51 [D.tms a, D.tms b] false (.d (.bool (decide (a = b)))) [] := by
  refine Ctr.of (n := 27) (rs := [.tmp 4]) Try.func51 rfl rfl Try.ntmps51 rfl rfl (by kernel_rfl) Try.checked.mixed ?_
  simp (disch := first | omega | decide +kernel) only [go_sem, zqa, zqb, zqc, zqd, zqe, ↓reduceIte, reduceCtorEq, zqf, zqg, zqh]
  (repeat' (first | ((first | (refine gsel_split (fun q' => ?_) (fun q' => ?_) <;> (have h' := q') <;> (try simp only [decide_eq_true_eq, decide_eq_false_iff_not, zba, zbb, bne_iff_ne, ne_eq, beq_iff_eq, bne_eq_false_iff_eq, beq_eq_false_iff_ne, zia, zib, zic, zid, zda, zbc, zbd, zbe, gt_iff_lt, ge_iff_le] at h')) | (have q' := trivial; first | refine hE _ _ ret_ne ?_ | refine hE _ _ exit_ne ?_)) <;> (try simp (disch := first | omega | decide +kernel) only [q', go_sem, zqa, zqb, zqc, zqd, zqe, ↓reduceIte, reduceCtorEq, zqf, zqg, zqh]) <;> clear q') | (refine hN _ ?_ ?_ Wk.kk) | (with_reducible refine And.intro ?_ ?_) | (with_reducible omega) | (exact ok_ints) | (exact cells_ints) | (exact no_mem) | (with_reducible exact plain_ints) | (refine le_maxLen ?_; omega) | (refine List.forall_mem_cons.2 ⟨?_, ?_⟩) | (simp only [go_sem, zqc, zqb, List.mem_cons, List.not_mem_nil, forall_eq]; done)))
  · have : ¬ a = b := by rintro rfl; simp at h'
    simp [this, D.plain]
  refine Ok.loopC [26, 25, 24, 23, 22, 21, 20, 19, 18, 17, 16, 15, 14, 13, 12, 11, 10, 9, 8, 7, 6, 5, 4, 3, 2] (fun i => [(5, .d (.int .i64 (i : Nat)))]) a.length (fun i => ∀ j, j < i → a.getD j (0, 0) = b.getD j (0, 0)) (by simp) (Wk.kk) ?_
  intro R i hN hE hi hI
  by_cases hlt : i < a.length
  · have hei := el_tm hlt
    have hej := el_tm (xs := b) (i := i) (by omega)
    have hc := eqTerm_ok (a.getD i (0, 0)) (b.getD i (0, 0))
    simp (disch := first | omega | decide +kernel) only [hei, hej, go_sem, zqa, zqb, zqc, zqd, zqe, ↓reduceIte, reduceCtorEq, zqf, zqg, zqh]
    (repeat' (first | ((first | (refine gsel_split (fun q' => ?_) (fun q' => ?_) <;> (have h' := q') <;> (try simp only [decide_eq_true_eq, decide_eq_false_iff_not, zba, zbb, bne_iff_ne, ne_eq, beq_iff_eq, bne_eq_false_iff_eq, beq_eq_false_iff_ne, zia, zib, zic, zid, zda, zbc, zbd, zbe, gt_iff_lt, ge_iff_le] at h')) | (have q' := trivial; first | refine callX_new (hc) rfl (by decide) ?_ | refine callY_new (hc) rfl ?_ | refine hE _ _ ret_ne ?_ | refine hE _ _ exit_ne ?_)) <;> (try simp (disch := first | omega | decide +kernel) only [q', hei, hej, go_sem, zqa, zqb, zqc, zqd, zqe, ↓reduceIte, reduceCtorEq, zqf, zqg, zqh]) <;> clear q') | (refine hN _ ?_ ?_ Wk.kk) | (with_reducible refine And.intro ?_ ?_) | (with_reducible omega) | (exact ok_ints) | (exact cells_ints) | (exact no_mem) | (with_reducible exact plain_ints) | (refine le_maxLen ?_; omega) | (refine List.forall_mem_cons.2 ⟨?_, ?_⟩) | (simp only [go_sem, zqc, zqb, List.mem_cons, List.not_mem_nil, forall_eq]; done)))
    · have : ¬ a = b := by rintro rfl; exact h' rfl
      simp [this, D.plain]
    · exact all_succ hI h'
  · simp (disch := first | omega | decide +kernel) only [go_sem, zqa, zqb, zqc, zqd, zqe, ↓reduceIte, reduceCtorEq, zqf, zqg, zqh]
    (repeat' (first | ((first | (refine gsel_split (fun q' => ?_) (fun q' => ?_) <;> (have h' := q') <;> (try simp only [decide_eq_true_eq, decide_eq_false_iff_not, zba, zbb, bne_iff_ne, ne_eq, beq_iff_eq, bne_eq_false_iff_eq, beq_eq_false_iff_ne, zia, zib, zic, zid, zda, zbc, zbd, zbe, gt_iff_lt, ge_iff_le] at h')) | (have q' := trivial; first | refine hE _ _ ret_ne ?_ | refine hE _ _ exit_ne ?_)) <;> (try simp (disch := first | omega | decide +kernel) only [q', go_sem, zqa, zqb, zqc, zqd, zqe, ↓reduceIte, reduceCtorEq, zqf, zqg, zqh]) <;> clear q') | (refine hN _ ?_ ?_ Wk.kk) | (with_reducible refine And.intro ?_ ?_) | (with_reducible omega) | (exact ok_ints) | (exact cells_ints) | (exact no_mem) | (with_reducible exact plain_ints) | (refine le_maxLen ?_; omega) | (refine List.forall_mem_cons.2 ⟨?_, ?_⟩) | (simp only [go_sem, zqc, zqb, List.mem_cons, List.not_mem_nil, forall_eq]; done)))
    · have : a = b := ext_getDz (0, 0) (by omega) fun j hj => hI j (by omega)
      simp [this, D.plain]
end Abs.Y

namespace Abs.Y
open Go Go.Proofs Abs
open Nat renaming reduceEqDiff → zqa, reduceLT → zqb, reduceAdd → zqc, reduceMul → zqd, reduceSub → zqe, reduceLeDiff → zqf, reduceSubDiff → zqg, reduceBEq → zqh
open Bool renaming not_eq_true' → zba, not_eq_false' → zbb, and_eq_true → zbc, or_eq_true → zbd, or_eq_false_iff → zbe
open Int renaming ofNat_lt → zia, ofNat_le → zib, not_lt → zic, not_le → zid
open Decidable renaming not_not → zda
set_option maxRecDepth 100000

end Abs.Y

namespace Abs.Y
open Go Go.Proofs Abs
open Nat renaming reduceEqDiff → zqa, reduceLT → zqb, reduceAdd → zqc, reduceMul → zqd, reduceSub → zqe, reduceLeDiff → zqf, reduceSubDiff → zqg, reduceBEq → zqh
open Bool renaming not_eq_true' → zba, not_eq_false' → zbb, and_eq_true → zbc, or_eq_true → zbd, or_eq_false_iff → zbe
open Int renaming ofNat_lt → zia, ofNat_le → zib, not_lt → zic, not_le → zid
open Decidable renaming not_not → zda
set_option maxRecDepth 100000

theorem r_cnf {x : D} (h : isSt [isI64, isSl (isSl isI64)] x) : ∃ (v : Int) (a : List (List Int)), x = .agg [.int .i64 v, .slice (a.map D.ints)] ∧ a.length ≤ 9223372036854775807 ∧ ∀ y ∈ a, y.length ≤ 9223372036854775807 := by
  obtain ⟨es, rfl, hl, he⟩ := h
  match es, hl with
  | [e0, e1], _ =>
    obtain ⟨v, hv, _⟩ := he 0 (by simp)
    obtain ⟨a, ha, h1, h2⟩ := r_intss (he 1 (by simp))
    simp only [List.getD_cons_zero, List.getD_cons_succ] at hv ha
    subst hv; subst ha
    exact ⟨v, a, rfl, h1, h2⟩
end Abs.Y

namespace Abs.Y
open Go Go.Proofs Abs
open Nat renaming reduceEqDiff → zqa, reduceLT → zqb, reduceAdd → zqc, reduceMul → zqd, reduceSub → zqe, reduceLeDiff → zqf, reduceSubDiff → zqg, reduceBEq → zqh
open Bool renaming not_eq_true' → zba, not_eq_false' → zbb, and_eq_true → zbc, or_eq_true → zbd, or_eq_false_iff → zbe
open Int renaming ofNat_lt → zia, ofNat_le → zib, not_lt → zic, not_le → zid
open Decidable renaming not_not → zda
set_option maxRecDepth 100000

theorem r_tm {x : D} (h : isSt [isI64, isI64] x) : ∃ t : Tm, x = D.tm t := by
  obtain ⟨es, rfl, hl, he⟩ := h
  match es, hl with
  | [e0, e1], _ =>
    obtain ⟨a, ha, _⟩ := he 0 (by simp)
    obtain ⟨b, hb, _⟩ := he 1 (by simp)
    simp only [List.getD_cons_zero, List.getD_cons_succ] at ha hb
    subst ha; subst hb
    exact ⟨(a, b), rfl⟩
theorem r_tms {x : D} (h : isSl (isSt [isI64, isI64]) x) : ∃ a : List Tm, x = D.tms a ∧ a.length ≤ 9223372036854775807 := by
  obtain ⟨es, rfl, hl, he⟩ := h
  obtain ⟨a, rfl, _⟩ := map_ex D.tm (Q := fun _ => True) he fun e h => by obtain ⟨t, ht⟩ := r_tm h; exact ⟨t, ht, trivial⟩
  exact ⟨a, rfl, by rw [maxLen_eq] at hl; simpa using hl⟩
end Abs.Y
