/- What functions of this program compute, as contracts over plain data, with what the proofs need of them. No condition. -/
import Derived.Test.YtfaamimlkogcpaaM0
import Derived.Test.YtfaamimlkogcpaaK0
import Derived.Test.YtfaamimlkogcpaaV2
import Derived.Test.YtfaamimlkogcpaaH7
set_option linter.all false
namespace Abs.Y
open Go Go.Proofs Abs
open Nat renaming reduceEqDiff → zqa, reduceLT → zqb, reduceAdd → zqc, reduceMul → zqd, reduceSub → zqe, reduceLeDiff → zqf, reduceSubDiff → zqg, reduceBEq → zqh
open Bool renaming not_eq_true' → zba, not_eq_false' → zbb, and_eq_true → zbc, or_eq_true → zbd, or_eq_false_iff → zbe
open Int renaming ofNat_lt → zia, ofNat_le → zib, not_lt → zic, not_le → zid
open Decidable renaming not_not → zda
set_option maxRecDepth 100000

theorem r_cnf {x : D} (h : isSt [isI64, isSl (isSl isI64)] x) : ∃ (v : Int) (a : List (List Int)), x = .agg [.int .i64 v, .slice (a.map D.ints)] ∧ a.length ≤ 9223372036854775807 ∧ ∀ y ∈ a, y.length ≤ 9223372036854775807 := by
  obtain ⟨es, rfl, hl, he⟩ := h
  match es, hl with
  | [e0, e1], _ =>
    obtain ⟨v, hv, _⟩ := he 0 (by simp)
    obtain ⟨a, ha, h1, h2⟩ := r_intss (he 1 (by simp))
    simp only [List.getD_cons_zero, List.getD_cons_succ] at hv ha
    subst hv; subst ha
    exact ⟨v, a, rfl, h1, h2⟩
end Abs.Y

namespace Abs.Y
open Go Go.Proofs Abs
open Nat renaming reduceEqDiff → zqa, reduceLT → zqb, reduceAdd → zqc, reduceMul → zqd, reduceSub → zqe, reduceLeDiff → zqf, reduceSubDiff → zqg, reduceBEq → zqh
open Bool renaming not_eq_true' → zba, not_eq_false' → zbb, and_eq_true → zbc, or_eq_true → zbd, or_eq_false_iff → zbe
open Int renaming ofNat_lt → zia, ofNat_le → zib, not_lt → zic, not_le → zid
open Decidable renaming not_not → zda
set_option maxRecDepth 100000

end Abs.Y

namespace Abs.Y
open Go Go.Proofs Abs
open Nat renaming reduceEqDiff → zqa, reduceLT → zqb, reduceAdd → zqc, reduceMul → zqd, reduceSub → zqe, reduceLeDiff → zqf, reduceSubDiff → zqg, reduceBEq → zqh
open Bool renaming not_eq_true' → zba, not_eq_false' → zbb, and_eq_true → zbc, or_eq_true → zbd, or_eq_false_iff → zbe
open Int renaming ofNat_lt → zia, ofNat_le → zib, not_lt → zic, not_le → zid
open Decidable renaming not_not → zda
set_option maxRecDepth 100000

theorem implLeastD_ok (p v : Int) (cs : List (List Int)) (hcl : cs.length ≤ 1048576) (hc : ∀ j, (cs.getD j []).length ≤ 1048576) {tt : Nat → Bool} (ht : ∀ u : Nat, v = u → (primeB p v && okCnf v cs) = true → ∀ d : Nat, tt d = true ↔ Sp p (2 ^ u) (prodsP p u (gradN (2 ^ u)) cs d) (monoD u 0)) :
    Ctr Try.prog 9 [.int .i64 p, .agg [.int .i64 v, .slice (cs.map D.ints)]] false (.tup [.d (.int .i64 (leastV (primeB p v && okCnf v cs) (idxR tt 7))), .d (.bool (leastB (primeB p v && okCnf v cs) (idxR tt 7)))]) [] := by
  unfold leastV leastB
  cases h1 : primeB p v && okCnf v cs with
  | false =>
    refine Ctr.of (n := 22) (rs := [.tmp 4, .tmp 5]) Try.func9 rfl rfl Try.ntmps9 rfl rfl (by kernel_rfl) Try.checked.mixed ?_
    simp (disch := first | omega | decide +kernel) only [go_sem, zqa, zqb, zqc, zqd, zqe, ↓reduceIte, reduceCtorEq, zqf, zqg, zqh]
    (repeat' (first | ((first | (refine gsel_split (fun q' => ?_) (fun q' => ?_) <;> (have h' := q') <;> (try simp only [decide_eq_true_eq, decide_eq_false_iff_not, zba, zbb, bne_iff_ne, ne_eq, beq_iff_eq, bne_eq_false_iff_eq, beq_eq_false_iff_ne, zia, zib, zic, zid, zda, zbc, zbd, zbe, gt_iff_lt, ge_iff_le] at h') <;> try (exfalso; omega)) | (have q' := trivial; first | refine hE _ _ ret_ne ?_ | refine hE _ _ exit_ne ?_)) <;> (try simp (disch := first | omega | decide +kernel) only [q', go_sem, zqa, zqb, zqc, zqd, zqe, ↓reduceIte, reduceCtorEq, zqf, zqg, zqh]) <;> clear q') | (refine hN _ ?_ ?_ Wk.kk) | (with_reducible refine And.intro ?_ ?_) | (with_reducible omega) | (exact ok_ints) | (exact cells_ints) | (exact no_mem) | (with_reducible exact plain_ints) | (refine le_maxLen ?_; omega) | (refine List.forall_mem_cons.2 ⟨?_, ?_⟩) | (simp only [go_sem, zqc, zqb, List.mem_cons, List.not_mem_nil, forall_eq]; done)))
    refine Ok.loopC [21, 20, 19, 18, 17, 16, 15, 14, 13, 12, 11, 10, 9, 8, 7, 6, 5, 4, 2, 1] (fun i => [(6, .d (.int .i64 (i : Nat)))]) 7 (fun i => True) trivial (Wk.kk) ?_
    intro R i hN hE hi hI
    by_cases hlt : i < 7
    · have c1 := find_bad p v cs i (by simp [degB]; omega) h1 hcl hc
      simp (disch := first | omega | decide +kernel) only [go_sem, zqa, zqb, zqc, zqd, zqe, ↓reduceIte, reduceCtorEq, zqf, zqg, zqh]
      (repeat' (first | ((first | (refine gsel_split (fun q' => ?_) (fun q' => ?_) <;> (have h' := q') <;> (try simp only [decide_eq_true_eq, decide_eq_false_iff_not, zba, zbb, bne_iff_ne, ne_eq, beq_iff_eq, bne_eq_false_iff_eq, beq_eq_false_iff_ne, zia, zib, zic, zid, zda, zbc, zbd, zbe, gt_iff_lt, ge_iff_le] at h') <;> try (exfalso; omega)) | (have q' := trivial; first | refine callX_shared (c1) rfl (by decide) ?_ | refine callY_shared (c1) rfl ?_ | refine hE _ _ ret_ne ?_ | refine hE _ _ exit_ne ?_)) <;> (try simp (disch := first | omega | decide +kernel) only [q', go_sem, zqa, zqb, zqc, zqd, zqe, ↓reduceIte, reduceCtorEq, zqf, zqg, zqh]) <;> clear q') | (refine hN _ ?_ ?_ Wk.kk) | (with_reducible refine And.intro ?_ ?_) | (with_reducible omega) | (exact ok_ints) | (exact cells_ints) | (exact no_mem) | (with_reducible exact plain_ints) | (refine le_maxLen ?_; omega) | (refine List.forall_mem_cons.2 ⟨?_, ?_⟩) | (simp only [go_sem, zqc, zqb, List.mem_cons, List.not_mem_nil, forall_eq]; done)))
      all_goals (first | omega | trivial)
    · simp (disch := first | omega | decide +kernel) only [go_sem, zqa, zqb, zqc, zqd, zqe, ↓reduceIte, reduceCtorEq, zqf, zqg, zqh]
      (repeat' (first | ((first | (refine gsel_split (fun q' => ?_) (fun q' => ?_) <;> (have h' := q') <;> (try simp only [decide_eq_true_eq, decide_eq_false_iff_not, zba, zbb, bne_iff_ne, ne_eq, beq_iff_eq, bne_eq_false_iff_eq, beq_eq_false_iff_ne, zia, zib, zic, zid, zda, zbc, zbd, zbe, gt_iff_lt, ge_iff_le] at h') <;> try (exfalso; omega)) | (have q' := trivial; first | refine hE _ _ ret_ne ?_ | refine hE _ _ exit_ne ?_)) <;> (try simp (disch := first | omega | decide +kernel) only [q', go_sem, zqa, zqb, zqc, zqd, zqe, ↓reduceIte, reduceCtorEq, zqf, zqg, zqh]) <;> clear q') | (refine hN _ ?_ ?_ Wk.kk) | (with_reducible refine And.intro ?_ ?_) | (with_reducible omega) | (exact ok_ints) | (exact cells_ints) | (exact no_mem) | (with_reducible exact plain_ints) | (refine le_maxLen ?_; omega) | (refine List.forall_mem_cons.2 ⟨?_, ?_⟩) | (simp only [go_sem, zqc, zqb, List.mem_cons, List.not_mem_nil, forall_eq]; done)))
      all_goals (first | omega | (simp; done) | rfl)
  | true =>
    have hpo := h1
    rw [zbc] at hpo
    obtain ⟨hp, hv⟩ := primeB_235 hpo.1
    obtain ⟨u, rfl⟩ : ∃ u : Nat, v = u := ⟨v.toNat, by omega⟩
    have hu : u ≤ 6 := by omega
    have htu := ht u rfl h1
    refine Ctr.of (n := 22) (rs := [.tmp 4, .tmp 5]) Try.func9 rfl rfl Try.ntmps9 rfl rfl (by kernel_rfl) Try.checked.mixed ?_
    simp (disch := first | omega | decide +kernel) only [go_sem, zqa, zqb, zqc, zqd, zqe, ↓reduceIte, reduceCtorEq, zqf, zqg, zqh]
    (repeat' (first | ((first | (refine gsel_split (fun q' => ?_) (fun q' => ?_) <;> (have h' := q') <;> (try simp only [decide_eq_true_eq, decide_eq_false_iff_not, zba, zbb, bne_iff_ne, ne_eq, beq_iff_eq, bne_eq_false_iff_eq, beq_eq_false_iff_ne, zia, zib, zic, zid, zda, zbc, zbd, zbe, gt_iff_lt, ge_iff_le] at h') <;> try (exfalso; omega)) | (have q' := trivial; first | refine hE _ _ ret_ne ?_ | refine hE _ _ exit_ne ?_)) <;> (try simp (disch := first | omega | decide +kernel) only [q', go_sem, zqa, zqb, zqc, zqd, zqe, ↓reduceIte, reduceCtorEq, zqf, zqg, zqh]) <;> clear q') | (refine hN _ ?_ ?_ Wk.kk) | (with_reducible refine And.intro ?_ ?_) | (with_reducible omega) | (exact ok_ints) | (exact cells_ints) | (exact no_mem) | (with_reducible exact plain_ints) | (refine le_maxLen ?_; omega) | (refine List.forall_mem_cons.2 ⟨?_, ?_⟩) | (simp only [go_sem, zqc, zqb, List.mem_cons, List.not_mem_nil, forall_eq]; done)))
    refine Ok.loopC [21, 20, 19, 18, 17, 16, 15, 14, 13, 12, 11, 10, 9, 8, 7, 6, 5, 4, 2, 1] (fun i => [(6, .d (.int .i64 (i : Nat)))]) 7 (fun i => ∀ j, j < i → tt j = false) (by simp) (Wk.kk) ?_
    intro R i hN hE hi hI
    by_cases hlt : i < 7
    · obtain ⟨out, c1⟩ := find_ok hp hu hpo (d := i) (by omega) hcl hc (htu i)
      clear htu ht
      cases hti : tt i with
      | true =>
        rw [hti] at c1
        have e9 : idxR tt 7 = i := idxR_some hlt hti hI
        rw [e9] at hE
        have hge : decide ((0 : Int) ≤ (i : Int)) = true := decide_eq_true (by omega)
        simp (disch := first | omega | decide +kernel) only [hge, go_sem, zqa, zqb, zqc, zqd, zqe, ↓reduceIte, reduceCtorEq, zqf, zqg, zqh]
        (repeat' (first | ((first | (refine gsel_split (fun q' => ?_) (fun q' => ?_) <;> (have h' := q') <;> (try simp only [decide_eq_true_eq, decide_eq_false_iff_not, zba, zbb, bne_iff_ne, ne_eq, beq_iff_eq, bne_eq_false_iff_eq, beq_eq_false_iff_ne, zia, zib, zic, zid, zda, zbc, zbd, zbe, gt_iff_lt, ge_iff_le] at h') <;> try (exfalso; omega)) | (have q' := trivial; first | refine callX_shared (c1) rfl (by decide) ?_ | refine callY_shared (c1) rfl ?_ | refine hE _ _ ret_ne ?_ | refine hE _ _ exit_ne ?_)) <;> (try simp (disch := first | omega | decide +kernel) only [q', hge, go_sem, zqa, zqb, zqc, zqd, zqe, ↓reduceIte, reduceCtorEq, zqf, zqg, zqh]) <;> clear q') | (refine hN _ ?_ ?_ Wk.kk) | (with_reducible refine And.intro ?_ ?_) | (with_reducible omega) | (exact ok_ints) | (exact cells_ints) | (exact no_mem) | (with_reducible exact plain_ints) | (refine le_maxLen ?_; omega) | (refine List.forall_mem_cons.2 ⟨?_, ?_⟩) | (simp only [go_sem, zqc, zqb, List.mem_cons, List.not_mem_nil, forall_eq]; done)))
        all_goals (first | omega)
      | false =>
        rw [hti] at c1
        have hI2 : ∀ j, j < i + 1 → tt j = false := all_succ hI hti
        simp (disch := first | omega | decide +kernel) only [go_sem, zqa, zqb, zqc, zqd, zqe, ↓reduceIte, reduceCtorEq, zqf, zqg, zqh]
        (repeat' (first | ((first | (refine gsel_split (fun q' => ?_) (fun q' => ?_) <;> (have h' := q') <;> (try simp only [decide_eq_true_eq, decide_eq_false_iff_not, zba, zbb, bne_iff_ne, ne_eq, beq_iff_eq, bne_eq_false_iff_eq, beq_eq_false_iff_ne, zia, zib, zic, zid, zda, zbc, zbd, zbe, gt_iff_lt, ge_iff_le] at h') <;> try (exfalso; omega)) | (have q' := trivial; first | refine callX_shared (c1) rfl (by decide) ?_ | refine callY_shared (c1) rfl ?_ | refine hE _ _ ret_ne ?_ | refine hE _ _ exit_ne ?_)) <;> (try simp (disch := first | omega | decide +kernel) only [q', go_sem, zqa, zqb, zqc, zqd, zqe, ↓reduceIte, reduceCtorEq, zqf, zqg, zqh]) <;> clear q') | (refine hN _ ?_ ?_ Wk.kk) | (with_reducible refine And.intro ?_ ?_) | (with_reducible omega) | (exact ok_ints) | (exact cells_ints) | (exact no_mem) | (with_reducible exact plain_ints) | (refine le_maxLen ?_; omega) | (refine List.forall_mem_cons.2 ⟨?_, ?_⟩) | (simp only [go_sem, zqc, zqb, List.mem_cons, List.not_mem_nil, forall_eq]; done)))
        all_goals (first | omega | exact hI2)
    · rw [idxR_none (n := 7) fun j hj => hI j (by omega)] at hE
      simp (disch := first | omega | decide +kernel) only [go_sem, zqa, zqb, zqc, zqd, zqe, ↓reduceIte, reduceCtorEq, zqf, zqg, zqh]
      (repeat' (first | ((first | (refine gsel_split (fun q' => ?_) (fun q' => ?_) <;> (have h' := q') <;> (try simp only [decide_eq_true_eq, decide_eq_false_iff_not, zba, zbb, bne_iff_ne, ne_eq, beq_iff_eq, bne_eq_false_iff_eq, beq_eq_false_iff_ne, zia, zib, zic, zid, zda, zbc, zbd, zbe, gt_iff_lt, ge_iff_le] at h') <;> try (exfalso; omega)) | (have q' := trivial; first | refine hE _ _ ret_ne ?_ | refine hE _ _ exit_ne ?_)) <;> (try simp (disch := first | omega | decide +kernel) only [q', go_sem, zqa, zqb, zqc, zqd, zqe, ↓reduceIte, reduceCtorEq, zqf, zqg, zqh]) <;> clear q') | (refine hN _ ?_ ?_ Wk.kk) | (with_reducible refine And.intro ?_ ?_) | (with_reducible omega) | (exact ok_ints) | (exact cells_ints) | (exact no_mem) | (with_reducible exact plain_ints) | (refine le_maxLen ?_; omega) | (refine List.forall_mem_cons.2 ⟨?_, ?_⟩) | (simp only [go_sem, zqc, zqb, List.mem_cons, List.not_mem_nil, forall_eq]; done)))
      all_goals (first | omega | rfl | (simp; done))
set_option maxHeartbeats 4000000 in
theorem law_LeastDegree : ∀ xs, AllR [isI64, isSt [isI64, isSl (isSl isI64)]] xs → Ctr Try.prog 3 xs false (.d (.bool true)) [] := by
  intro xs hx
  obtain ⟨x0, ys, rfl, h0, hx⟩ := allR_cons hx
  obtain ⟨x1, ys, rfl, h1, hx⟩ := allR_cons hx
  obtain rfl := allR_nil hx
  obtain ⟨p, rfl, _⟩ := h0
  obtain ⟨v, cs, rfl, hcl, hcx⟩ := r_cnf h1
  have e1 := szS_szF szI_szF cs 1048576 (by omega)
  have s1 := szCnf_ok v cs 1048576 hcl hcx ⟨by omega, by omega⟩
  by_cases hz1 : szS szI cs 1048576 < 0
  · refine Ctr.of (n := 44) (rs := [.tmp 4]) Try.func3 rfl rfl Try.ntmps3 rfl rfl (by kernel_rfl) Try.checked.mixed ?_
    simp (disch := first | omega | decide +kernel) only [go_sem, zqa, zqb, zqc, zqd, zqe, ↓reduceIte, reduceCtorEq, zqf, zqg, zqh]
    (repeat' (first | ((first | (refine gsel_split (fun q' => ?_) (fun q' => ?_) <;> (have h' := q') <;> (try simp only [decide_eq_true_eq, decide_eq_false_iff_not, zba, zbb, bne_iff_ne, ne_eq, beq_iff_eq, bne_eq_false_iff_eq, beq_eq_false_iff_ne, zia, zib, zic, zid, zda, zbc, zbd, zbe, gt_iff_lt, ge_iff_le] at h')) | (have q' := trivial; first | refine callX_new (s1) rfl (by decide) ?_ | refine callY_new (s1) rfl ?_ | refine hE _ _ ret_ne ?_ | refine hE _ _ exit_ne ?_)) <;> (try simp (disch := first | omega | decide +kernel) only [q', go_sem, zqa, zqb, zqc, zqd, zqe, ↓reduceIte, reduceCtorEq, zqf, zqg, zqh]) <;> clear q') | (refine hN _ ?_ ?_ Wk.kk) | (with_reducible refine And.intro ?_ ?_) | (with_reducible omega) | (exact ok_ints) | (exact cells_ints) | (exact no_mem) | (with_reducible exact plain_ints) | (refine le_maxLen ?_; omega) | (refine List.forall_mem_cons.2 ⟨?_, ?_⟩) | (simp only [go_sem, zqc, zqb, List.mem_cons, List.not_mem_nil, forall_eq]; done)))
  have l1 := szS_len (f := szI) (a := cs) (left := 1048576) (by omega)
  have x1 : ∀ x ∈ cs, x.length ≤ 1048576 := fun x hx => by
    obtain ⟨y, h3, h4, h5⟩ := szS_each szI_szF (a := cs) (left := 1048576) (by omega) x hx
    have := szI_len h5; omega
  have hc : ∀ j, (cs.getD j []).length ≤ 1048576 := fun j => by
    by_cases hj : j < cs.length
    · exact x1 _ (getD_mem hj)
    · rw [List.getD_eq_getElem?_getD, List.getElem?_eq_none (by omega)]; simp
  have hcl' : cs.length ≤ 4294967296 := by omega
  have hcs : ∀ x ∈ cs, x.length ≤ 4294967296 := fun x hx => Nat.le_trans (x1 x hx) (by omega)
  have t1 := toCnf_ok v cs hcl' hcs
  have q1 := eqCnf_ok v v cs cs hcl' hcs
  obtain ⟨tt, ht⟩ : ∃ tt : Nat → Bool, ∀ d : Nat, tt d = true ↔ Sp p (2 ^ v.toNat) (prodsP p v.toNat (gradN (2 ^ v.toNat)) cs d) (monoD v.toNat 0) := ⟨fun d => (bool_ex (Sp p (2 ^ v.toNat) (prodsP p v.toNat (gradN (2 ^ v.toNat)) cs d) (monoD v.toNat 0))).choose, fun d => (bool_ex (Sp p (2 ^ v.toNat) (prodsP p v.toNat (gradN (2 ^ v.toNat)) cs d) (monoD v.toNat 0))).choose_spec⟩
  have ht2 : ∀ u : Nat, v = u → (primeB p v && okCnf v cs) = true → ∀ d : Nat, tt d = true ↔ Sp p (2 ^ u) (prodsP p u (gradN (2 ^ u)) cs d) (monoD u 0) := fun u hu _ d => by
    subst hu
    have := ht d
    rwa [Int.toNat_natCast] at this
  have c1 := specLeastD_ok p v cs (by omega) hc ht2
  have c2 := implLeastD_ok p v cs (by omega) hc ht2
  clear ht ht2
  generalize leastV (primeB p v && okCnf v cs) (idxR tt 7) = V at *
  generalize leastB (primeB p v && okCnf v cs) (idxR tt 7) = B at *
  clear e1 hz1 h1
  refine Ctr.of (n := 44) (rs := [.tmp 4]) Try.func3 rfl rfl Try.ntmps3 rfl rfl (by kernel_rfl) Try.checked.mixed ?_
  simp (disch := first | omega | decide +kernel) only [go_sem, zqa, zqb, zqc, zqd, zqe, ↓reduceIte, reduceCtorEq, zqf, zqg, zqh]
  (repeat' (first | ((first | (refine gsel_split (fun q' => ?_) (fun q' => ?_) <;> (have h' := q') <;> (try simp only [decide_eq_true_eq, decide_eq_false_iff_not, zba, zbb, bne_iff_ne, ne_eq, beq_iff_eq, bne_eq_false_iff_eq, beq_eq_false_iff_ne, zia, zib, zic, zid, zda, zbc, zbd, zbe, gt_iff_lt, ge_iff_le] at h')) | (have q' := trivial; first | refine callX_new (s1) rfl (by decide) ?_ | refine callY_new (s1) rfl ?_ | refine callX_new (c1) rfl (by decide) ?_ | refine callY_new (c1) rfl ?_ | refine callX_new (c2) rfl (by decide) ?_ | refine callY_new (c2) rfl ?_ | refine callX_new (q1) rfl (by decide) ?_ | refine callY_new (q1) rfl ?_ | refine callX_shared (t1) rfl (by decide) ?_ | refine callY_shared (t1) rfl ?_ | refine hE _ _ ret_ne ?_ | refine hE _ _ exit_ne ?_)) <;> (try simp (disch := first | omega | decide +kernel) only [q', go_sem, zqa, zqb, zqc, zqd, zqe, ↓reduceIte, reduceCtorEq, zqf, zqg, zqh]) <;> clear q') | (refine hN _ ?_ ?_ Wk.kk) | (with_reducible refine And.intro ?_ ?_) | (with_reducible omega) | (exact ok_ints) | (exact cells_ints) | (exact no_mem) | (with_reducible exact plain_ints) | (refine le_maxLen ?_; omega) | (refine List.forall_mem_cons.2 ⟨?_, ?_⟩) | (simp only [go_sem, zqc, zqb, List.mem_cons, List.not_mem_nil, forall_eq]; done)))
  all_goals (first | exact absurd trivial h' | omega | (simp_all; done))
end Abs.Y
