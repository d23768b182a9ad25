/- What functions of this program compute, as contracts over plain data, with what the proofs need of them. No condition. -/
import Derived.Test.YtcpflbfcglcjfaaV3c
set_option linter.all false
namespace Abs.Y
open Go Go.Proofs Abs
open Nat renaming reduceEqDiff → zqa, reduceLT → zqb, reduceAdd → zqc, reduceMul → zqd, reduceSub → zqe, reduceLeDiff → zqf, reduceSubDiff → zqg, reduceBEq → zqh
open Bool renaming not_eq_true' → zba, not_eq_false' → zbb, and_eq_true → zbc, or_eq_true → zbd, or_eq_false_iff → zbe
open Int renaming ofNat_lt → zia, ofNat_le → zib, not_lt → zic, not_le → zid
open Decidable renaming not_not → zda
set_option maxRecDepth 100000

theorem sz_cnf {cs : List (List Int)} (h : ¬ szS szI cs 1048576 < 0) : cs.length ≤ 1048576 ∧ (∀ x ∈ cs, x.length ≤ 1048576) ∧ ∀ j, (cs.getD j []).length ≤ 1048576 := by
  have l1 := szS_len (f := szI) (a := cs) (left := 1048576) (by omega)
  have x1 : ∀ x ∈ cs, x.length ≤ 1048576 := fun x hx => by
    obtain ⟨y, h3, h4, h5⟩ := szS_each szI_szF (a := cs) (left := 1048576) (by omega) x hx
    have := szI_len h5; omega
  refine ⟨by omega, x1, fun j => ?_⟩
  by_cases hj : j < cs.length
  · exact x1 _ (getD_mem hj)
  · rw [List.getD_eq_getElem?_getD, List.getElem?_eq_none (by omega)]; simp
theorem closI_bd (v : Int) (cs : List (List Int)) (w : Int) : (closI v cs w).length ≤ 4096 ∧ ∀ x ∈ closI v cs w, x.length ≤ 12 := by
  unfold closI
  split
  · rename_i h
    obtain ⟨g1, _⟩ := good6 h
    exact ⟨closV_len g1, fun x hx => g6_len (closV_g6 g1 x hx)⟩
  · exact ⟨by simp, fun x hx => nomatch hx⟩
theorem derI_bd (v : Int) (cs : List (List Int)) : (derI v cs).length ≤ 4096 ∧ ∀ x ∈ derI v cs, x.length ≤ 12 := by
  unfold derI
  split
  · rename_i h
    unfold derB at h
    rw [zbc] at h
    obtain ⟨g1, _⟩ := good6 h.1
    exact ⟨closV_len g1, fun x hx => g6_len (closV_g6 g1 x hx)⟩
  · exact ⟨by simp, fun x hx => nomatch hx⟩
set_option maxHeartbeats 4000000 in
theorem law_ClosureAt : ∀ xs, AllR [isSt [isI64, isSl (isSl isI64)], isI64] xs → Ctr Try.prog 6 xs false (.d (.bool true)) [] := by
  intro xs hx
  obtain ⟨x0, ys, rfl, h0, hx⟩ := allR_cons hx
  obtain ⟨x1, ys, rfl, h1, hx⟩ := allR_cons hx
  obtain rfl := allR_nil hx
  obtain ⟨v, cs, rfl, hcl, hcx⟩ := r_cnf h0
  obtain ⟨w, rfl, _⟩ := h1
  have e1 := szS_szF szI_szF cs 1048576 (by omega)
  have s1 := szCnf_ok v cs 1048576 hcl hcx ⟨by omega, by omega⟩
  by_cases hz1 : szS szI cs 1048576 < 0
  · refine Ctr.of (n := 101) (rs := [.tmp 4]) Try.func6 rfl rfl Try.ntmps6 rfl rfl (by kernel_rfl) Try.checked.mixed ?_
    simp (disch := first | omega | decide +kernel) only [go_sem, zqa, zqb, zqc, zqd, zqe, ↓reduceIte, reduceCtorEq, zqf, zqg, zqh]
    (repeat' (first | ((first | (refine gsel_split (fun q' => ?_) (fun q' => ?_) <;> (have h' := q') <;> (try simp only [decide_eq_true_eq, decide_eq_false_iff_not, zba, zbb, bne_iff_ne, ne_eq, beq_iff_eq, bne_eq_false_iff_eq, beq_eq_false_iff_ne, zia, zib, zic, zid, zda, zbc, zbd, zbe, gt_iff_lt, ge_iff_le] at h')) | (have q' := trivial; first | refine callX_new (s1) rfl (by decide) ?_ | refine callY_new (s1) rfl ?_ | refine hE _ _ ret_ne ?_ | refine hE _ _ exit_ne ?_)) <;> (try simp (disch := first | omega | decide +kernel) only [q', go_sem, zqa, zqb, zqc, zqd, zqe, ↓reduceIte, reduceCtorEq, zqf, zqg, zqh]) <;> clear q') | (refine hN _ ?_ ?_ Wk.kk) | (with_reducible refine And.intro ?_ ?_) | (with_reducible omega) | (exact ok_ints) | (exact cells_ints) | (exact no_mem) | (with_reducible exact plain_ints) | (refine le_maxLen ?_; omega) | (refine List.forall_mem_cons.2 ⟨?_, ?_⟩) | (simp only [go_sem, zqc, zqb, List.mem_cons, List.not_mem_nil, forall_eq]; done)))
  obtain ⟨l1, x1, hc⟩ := sz_cnf (cs := cs) (by omega)
  have hcl' : cs.length ≤ 4294967296 := by omega
  have hcs : ∀ x ∈ cs, x.length ≤ 4294967296 := fun x hx => Nat.le_trans (x1 x hx) (by omega)
  have t1 := toCnf_ok v cs hcl' hcs
  have q1 := eqCnf_ok v v cs cs hcl' hcs
  have d1 := toCnfd_ok v cs hcl' hcs
  have c1 := sClosureAt_ok v cs w (by omega) hc
  have c2 := closureAt_ok v cs w (by omega) hc
  have hlen := lenSS_bound (a := cs) (B := 1048576) x1
  have m1 := fun τ => markCnf_ok τ v cs 1 (by omega) (by omega) hcl'
  obtain ⟨hR, hRx⟩ := closI_bd v cs w
  generalize closI v cs w = R at *
  generalize goodN v cs w = B at *
  have hRl := lenSS_bound (a := R) (B := 12) hRx
  have hRm : R.length * (12 + 1) ≤ 4096 * 13 := Nat.mul_le_mul_right 13 hR
  have q0 := eqIntSS_ok R R (by omega) (fun x hx => Nat.le_trans (hRx x hx) (by omega))
  have m3 := fun τ => markIntSS_ok τ R 1 (by omega) (by omega) (by omega)
  have hh := heldIntSS_ok R 1 (by omega) (by omega) (by omega)
  clear e1 hz1 h0
  refine Ctr.of (n := 101) (rs := [.tmp 4]) Try.func6 rfl rfl Try.ntmps6 rfl rfl (by kernel_rfl) Try.checked.mixed ?_
  simp (disch := first | omega | decide +kernel) only [go_sem, zqa, zqb, zqc, zqd, zqe, ↓reduceIte, reduceCtorEq, zqf, zqg, zqh]
  (repeat' (first | ((first | (refine gsel_split (fun q' => ?_) (fun q' => ?_) <;> (have h' := q') <;> (try simp only [decide_eq_true_eq, decide_eq_false_iff_not, zba, zbb, bne_iff_ne, ne_eq, beq_iff_eq, bne_eq_false_iff_eq, beq_eq_false_iff_ne, zia, zib, zic, zid, zda, zbc, zbd, zbe, gt_iff_lt, ge_iff_le] at h')) | (have q' := trivial; first | refine callX_new (s1) rfl (by decide) ?_ | refine callY_new (s1) rfl ?_ | refine callX_new (d1) rfl (by decide) ?_ | refine callY_new (d1) rfl ?_ | refine callX_new (c1) rfl (by decide) ?_ | refine callY_new (c1) rfl ?_ | refine callX_new (c2) rfl (by decide) ?_ | refine callY_new (c2) rfl ?_ | refine callX_new (q0) rfl (by decide) ?_ | refine callY_new (q0) rfl ?_ | refine callX_new (q1) rfl (by decide) ?_ | refine callY_new (q1) rfl ?_ | refine callX_keep _ (m1 _) ⟨.inl rfl, .inl rfl, trivial⟩ rfl (by simp [dstB]) ?_ | refine callX_keep _ (m3 _) ⟨.inl rfl, .inl rfl, trivial⟩ rfl (by simp [dstB]) ?_ | refine callX_new (hh) rfl (by decide) ?_ | refine callY_new (hh) rfl ?_ | refine callX_shared (t1) rfl (by decide) ?_ | refine callY_shared (t1) rfl ?_ | refine hE _ _ ret_ne ?_ | refine hE _ _ exit_ne ?_)) <;> (try simp (disch := first | omega | decide +kernel) only [q', go_sem, zqa, zqb, zqc, zqd, zqe, ↓reduceIte, reduceCtorEq, zqf, zqg, zqh]) <;> clear q') | (refine hN _ ?_ ?_ Wk.kk) | (with_reducible refine And.intro ?_ ?_) | (with_reducible omega) | (exact ok_ints) | (exact cells_ints) | (exact no_mem) | (with_reducible exact plain_ints) | (refine le_maxLen ?_; omega) | (refine List.forall_mem_cons.2 ⟨?_, ?_⟩) | (simp only [go_sem, zqc, zqb, List.mem_cons, List.not_mem_nil, forall_eq]; done)))
  all_goals (first | exact absurd trivial h' | omega)
end Abs.Y
