/- What functions of this program compute, as contracts over plain data, with what the proofs need of them. No condition. -/
import Derived.Test.YtfaamimlkogcpaaGreatFacts
import Derived.Test.YtfaamimlkogcpaaGreatAbsRow
set_option linter.all false
namespace Abs.Y
open Go Go.Proofs Abs
open Nat renaming reduceEqDiff → zqa, reduceLT → zqb, reduceAdd → zqc, reduceMul → zqd, reduceSub → zqe, reduceLeDiff → zqf, reduceSubDiff → zqg, reduceBEq → zqh
open Bool renaming not_eq_true' → zba, not_eq_false' → zbb, and_eq_true → zbc, or_eq_true → zbd, or_eq_false_iff → zbe
open Int renaming ofNat_lt → zia, ofNat_le → zib, not_lt → zic, not_le → zid
open Decidable renaming not_not → zda
set_option maxRecDepth 100000

theorem within_ok (n lo hi : Int) : Ctr Tryz.prog 48 [.int .i64 n, .int .i64 lo, .int .i64 hi] false (.d (.bool (decide (lo ≤ n) && decide (n ≤ hi)))) [] := by
  refine Ctr.of (n := 15) (rs := [.tmp 6]) Tryz.func48 rfl rfl Tryz.ntmps48 rfl rfl (by kernel_rfl) Tryz.checked.mixed ?_
  simp (disch := first | omega | decide +kernel) only [go_sem, zqa, zqb, zqc, zqd, zqe, ↓reduceIte, reduceCtorEq, zqf, zqg, zqh]
  (repeat' (first | ((first | (refine gsel_split (fun q' => ?_) (fun q' => ?_) <;> (have h' := q') <;> (try simp only [decide_eq_true_eq, decide_eq_false_iff_not, zba, zbb, bne_iff_ne, ne_eq, beq_iff_eq, bne_eq_false_iff_eq, beq_eq_false_iff_ne, zia, zib, zic, zid, zda, zbc, zbd, zbe, gt_iff_lt, ge_iff_le] at h')) | (have q' := trivial; first | refine hE _ _ ret_ne ?_ | refine hE _ _ exit_ne ?_)) <;> (try simp (disch := first | omega | decide +kernel) only [q', go_sem, zqa, zqb, zqc, zqd, zqe, ↓reduceIte, reduceCtorEq, zqf, zqg, zqh]) <;> clear q') | (refine hN _ ?_ ?_ Wk.kk) | (with_reducible refine And.intro ?_ ?_) | (with_reducible omega) | (exact ok_ints) | (exact cells_ints) | (exact no_mem) | (with_reducible exact plain_ints) | (refine le_maxLen ?_; omega) | (refine List.forall_mem_cons.2 ⟨?_, ?_⟩) | (simp only [go_sem, zqc, zqb, List.mem_cons, List.not_mem_nil, forall_eq]; done)))
theorem l1In_ok (x a b : Int) : Ctr Tryz.prog 39 [.int .i64 x, .int .i64 a, .int .i64 b] false (.d (.bool (decide (a ≤ x) && decide (x ≤ b)))) [] := by
  refine Ctr.of (n := 15) (rs := [.tmp 6]) Tryz.func39 rfl rfl Tryz.ntmps39 rfl rfl (by kernel_rfl) Tryz.checked.mixed ?_
  simp (disch := first | omega | decide +kernel) only [go_sem, zqa, zqb, zqc, zqd, zqe, ↓reduceIte, reduceCtorEq, zqf, zqg, zqh]
  (repeat' (first | ((first | (refine gsel_split (fun q' => ?_) (fun q' => ?_) <;> (have h' := q') <;> (try simp only [decide_eq_true_eq, decide_eq_false_iff_not, zba, zbb, bne_iff_ne, ne_eq, beq_iff_eq, bne_eq_false_iff_eq, beq_eq_false_iff_ne, zia, zib, zic, zid, zda, zbc, zbd, zbe, gt_iff_lt, ge_iff_le] at h')) | (have q' := trivial; first | refine hE _ _ ret_ne ?_ | refine hE _ _ exit_ne ?_)) <;> (try simp (disch := first | omega | decide +kernel) only [q', go_sem, zqa, zqb, zqc, zqd, zqe, ↓reduceIte, reduceCtorEq, zqf, zqg, zqh]) <;> clear q') | (refine hN _ ?_ ?_ Wk.kk) | (with_reducible refine And.intro ?_ ?_) | (with_reducible omega) | (exact ok_ints) | (exact cells_ints) | (exact no_mem) | (with_reducible exact plain_ints) | (refine le_maxLen ?_; omega) | (refine List.forall_mem_cons.2 ⟨?_, ?_⟩) | (simp only [go_sem, zqc, zqb, List.mem_cons, List.not_mem_nil, forall_eq]; done)))
def absI (n : Int) : Int := if IntKind.i64.wrap (0 - n) > n then IntKind.i64.wrap (0 - n) else n
theorem abs_ok (n : Int) : Ctr Tryz.prog 87 [.int .i64 n] false (.d (.int .i64 (absI n))) [] := by
  refine Ctr.of (n := 7) (rs := [.tmp 2]) Tryz.func87 rfl rfl Tryz.ntmps87 rfl rfl (by kernel_rfl) Tryz.checked.mixed ?_
  simp (disch := first | omega | decide +kernel) only [go_sem, zqa, zqb, zqc, zqd, zqe, ↓reduceIte, reduceCtorEq, zqf, zqg, zqh]
  simp [absI]
def varI (n : Int) : Int := if n < 0 then IntKind.i64.wrap (0 - n) else n
theorem l2Var_ok (n : Int) : Ctr Tryz.prog 84 [.int .i64 n] false (.d (.int .i64 (varI n))) [] := by
  refine Ctr.of (n := 8) (rs := [.tmp 2]) Tryz.func84 rfl rfl Tryz.ntmps84 rfl rfl (by kernel_rfl) Tryz.checked.mixed ?_
  simp (disch := first | omega | decide +kernel) only [go_sem, zqa, zqb, zqc, zqd, zqe, ↓reduceIte, reduceCtorEq, zqf, zqg, zqh]
  (repeat' (first | ((first | (refine gsel_split (fun q' => ?_) (fun q' => ?_) <;> (have h' := q') <;> (try simp only [decide_eq_true_eq, decide_eq_false_iff_not, zba, zbb, bne_iff_ne, ne_eq, beq_iff_eq, bne_eq_false_iff_eq, beq_eq_false_iff_ne, zia, zib, zic, zid, zda, zbc, zbd, zbe, gt_iff_lt, ge_iff_le] at h')) | (have q' := trivial; first | refine hE _ _ ret_ne ?_ | refine hE _ _ exit_ne ?_)) <;> (try simp (disch := first | omega | decide +kernel) only [q', go_sem, zqa, zqb, zqc, zqd, zqe, ↓reduceIte, reduceCtorEq, zqf, zqg, zqh]) <;> clear q') | (refine hN _ ?_ ?_ Wk.kk) | (with_reducible refine And.intro ?_ ?_) | (with_reducible omega) | (exact ok_ints) | (exact cells_ints) | (exact no_mem) | (with_reducible exact plain_ints) | (refine le_maxLen ?_; omega) | (refine List.forall_mem_cons.2 ⟨?_, ?_⟩) | (simp only [go_sem, zqc, zqb, List.mem_cons, List.not_mem_nil, forall_eq]; done)))
  · simp [varI, h', D.plain]
  · simp [varI, zic.2 h', D.plain]
def okVars (v : Int) : Bool := decide (0 ≤ v) && decide (v ≤ 12)
theorem varsOk_ok (v : Int) : Ctr Tryz.prog 65 [.int .i64 v] false (.d (.bool (okVars v))) [] := by
  refine Ctr.of (n := 5) (rs := [.tmp 2]) Tryz.func65 rfl rfl Tryz.ntmps65 rfl rfl (by kernel_rfl) Tryz.checked.mixed ?_
  simp (disch := first | omega | decide +kernel) only [go_sem, zqa, zqb, zqc, zqd, zqe, ↓reduceIte, reduceCtorEq, zqf, zqg, zqh]
  (repeat' (first | ((first | (refine gsel_split (fun q' => ?_) (fun q' => ?_) <;> (have h' := q') <;> (try simp only [decide_eq_true_eq, decide_eq_false_iff_not, zba, zbb, bne_iff_ne, ne_eq, beq_iff_eq, bne_eq_false_iff_eq, beq_eq_false_iff_ne, zia, zib, zic, zid, zda, zbc, zbd, zbe, gt_iff_lt, ge_iff_le] at h')) | (have q' := trivial; first | refine callX_new (within_ok _ _ _) rfl (by decide) ?_ | refine callY_new (within_ok _ _ _) rfl ?_ | refine hE _ _ ret_ne ?_ | refine hE _ _ exit_ne ?_)) <;> (try simp (disch := first | omega | decide +kernel) only [q', go_sem, zqa, zqb, zqc, zqd, zqe, ↓reduceIte, reduceCtorEq, zqf, zqg, zqh]) <;> clear q') | (refine hN _ ?_ ?_ Wk.kk) | (with_reducible refine And.intro ?_ ?_) | (with_reducible omega) | (exact ok_ints) | (exact cells_ints) | (exact no_mem) | (with_reducible exact plain_ints) | (refine le_maxLen ?_; omega) | (refine List.forall_mem_cons.2 ⟨?_, ?_⟩) | (simp only [go_sem, zqc, zqb, List.mem_cons, List.not_mem_nil, forall_eq]; done)))
  rfl
theorem l2Vars_ok (v : Int) : Ctr Tryz.prog 59 [.int .i64 v] false (.d (.bool (okVars v))) [] := by
  refine Ctr.of (n := 5) (rs := [.tmp 2]) Tryz.func59 rfl rfl Tryz.ntmps59 rfl rfl (by kernel_rfl) Tryz.checked.mixed ?_
  simp (disch := first | omega | decide +kernel) only [go_sem, zqa, zqb, zqc, zqd, zqe, ↓reduceIte, reduceCtorEq, zqf, zqg, zqh]
  (repeat' (first | ((first | (refine gsel_split (fun q' => ?_) (fun q' => ?_) <;> (have h' := q') <;> (try simp only [decide_eq_true_eq, decide_eq_false_iff_not, zba, zbb, bne_iff_ne, ne_eq, beq_iff_eq, bne_eq_false_iff_eq, beq_eq_false_iff_ne, zia, zib, zic, zid, zda, zbc, zbd, zbe, gt_iff_lt, ge_iff_le] at h')) | (have q' := trivial; first | refine callX_new (l1In_ok _ _ _) rfl (by decide) ?_ | refine callY_new (l1In_ok _ _ _) rfl ?_ | refine hE _ _ ret_ne ?_ | refine hE _ _ exit_ne ?_)) <;> (try simp (disch := first | omega | decide +kernel) only [q', go_sem, zqa, zqb, zqc, zqd, zqe, ↓reduceIte, reduceCtorEq, zqf, zqg, zqh]) <;> clear q') | (refine hN _ ?_ ?_ Wk.kk) | (with_reducible refine And.intro ?_ ?_) | (with_reducible omega) | (exact ok_ints) | (exact cells_ints) | (exact no_mem) | (with_reducible exact plain_ints) | (refine le_maxLen ?_; omega) | (refine List.forall_mem_cons.2 ⟨?_, ?_⟩) | (simp only [go_sem, zqc, zqb, List.mem_cons, List.not_mem_nil, forall_eq]; done)))
  rfl
def okLit (v l : Int) : Bool := decide (l ≠ 0) && (decide (IntKind.i64.wrap (0 - v) ≤ l) && decide (l ≤ v))
theorem isLiteral_ok (v l : Int) : Ctr Tryz.prog 86 [.int .i64 v, .int .i64 l] false (.d (.bool (okLit v l))) [] := by
  refine Ctr.of (n := 14) (rs := [.tmp 4]) Tryz.func86 rfl rfl Tryz.ntmps86 rfl rfl (by kernel_rfl) Tryz.checked.mixed ?_
  simp (disch := first | omega | decide +kernel) only [go_sem, zqa, zqb, zqc, zqd, zqe, ↓reduceIte, reduceCtorEq, zqf, zqg, zqh]
  (repeat' (first | ((first | (refine gsel_split (fun q' => ?_) (fun q' => ?_) <;> (have h' := q') <;> (try simp only [decide_eq_true_eq, decide_eq_false_iff_not, zba, zbb, bne_iff_ne, ne_eq, beq_iff_eq, bne_eq_false_iff_eq, beq_eq_false_iff_ne, zia, zib, zic, zid, zda, zbc, zbd, zbe, gt_iff_lt, ge_iff_le] at h')) | (have q' := trivial; first | refine callX_new (within_ok _ _ _) rfl (by decide) ?_ | refine callY_new (within_ok _ _ _) rfl ?_ | refine hE _ _ ret_ne ?_ | refine hE _ _ exit_ne ?_)) <;> (try simp (disch := first | omega | decide +kernel) only [q', go_sem, zqa, zqb, zqc, zqd, zqe, ↓reduceIte, reduceCtorEq, zqf, zqg, zqh]) <;> clear q') | (refine hN _ ?_ ?_ Wk.kk) | (with_reducible refine And.intro ?_ ?_) | (with_reducible omega) | (exact ok_ints) | (exact cells_ints) | (exact no_mem) | (with_reducible exact plain_ints) | (refine le_maxLen ?_; omega) | (refine List.forall_mem_cons.2 ⟨?_, ?_⟩) | (simp only [go_sem, zqc, zqb, List.mem_cons, List.not_mem_nil, forall_eq]; done)))
  · simp [okLit, h']
  · simp [okLit, h']
theorem l2Lit_ok (v l : Int) : Ctr Tryz.prog 83 [.int .i64 v, .int .i64 l] false (.d (.bool (okLit v l))) [] := by
  refine Ctr.of (n := 14) (rs := [.tmp 4]) Tryz.func83 rfl rfl Tryz.ntmps83 rfl rfl (by kernel_rfl) Tryz.checked.mixed ?_
  simp (disch := first | omega | decide +kernel) only [go_sem, zqa, zqb, zqc, zqd, zqe, ↓reduceIte, reduceCtorEq, zqf, zqg, zqh]
  (repeat' (first | ((first | (refine gsel_split (fun q' => ?_) (fun q' => ?_) <;> (have h' := q') <;> (try simp only [decide_eq_true_eq, decide_eq_false_iff_not, zba, zbb, bne_iff_ne, ne_eq, beq_iff_eq, bne_eq_false_iff_eq, beq_eq_false_iff_ne, zia, zib, zic, zid, zda, zbc, zbd, zbe, gt_iff_lt, ge_iff_le] at h')) | (have q' := trivial; first | refine callX_new (l1In_ok _ _ _) rfl (by decide) ?_ | refine callY_new (l1In_ok _ _ _) rfl ?_ | refine hE _ _ ret_ne ?_ | refine hE _ _ exit_ne ?_)) <;> (try simp (disch := first | omega | decide +kernel) only [q', go_sem, zqa, zqb, zqc, zqd, zqe, ↓reduceIte, reduceCtorEq, zqf, zqg, zqh]) <;> clear q') | (refine hN _ ?_ ?_ Wk.kk) | (with_reducible refine And.intro ?_ ?_) | (with_reducible omega) | (exact ok_ints) | (exact cells_ints) | (exact no_mem) | (with_reducible exact plain_ints) | (refine le_maxLen ?_; omega) | (refine List.forall_mem_cons.2 ⟨?_, ?_⟩) | (simp only [go_sem, zqc, zqb, List.mem_cons, List.not_mem_nil, forall_eq]; done)))
  · simp [okLit, h', ← Int.zero_sub]
    rfl
  · simp [okLit, h', ← Int.zero_sub]
def okAt (v : Int) (c : List Int) (j : Nat) : Prop := (c.getD j 0 ≠ 0 ∧ -v ≤ c.getD j 0 ∧ c.getD j 0 ≤ v) ∧ (0 < j → (c.getD (j - 1) 0).natAbs < (c.getD j 0).natAbs)
instance (v c j) : Decidable (okAt v c j) := by unfold okAt; infer_instance
def okClause (v : Int) (c : List Int) : Bool := okVars v && decide (∀ j, j < c.length → okAt v c j)
theorem okVars_iff {v : Int} : okVars v = true ↔ 0 ≤ v ∧ v ≤ 12 := by simp [okVars]
theorem okLit_iff {v l : Int} (h : okVars v = true) : okLit v l = true ↔ l ≠ 0 ∧ -v ≤ l ∧ l ≤ v := by
  rw [okVars_iff] at h
  simp only [okLit, wrap_of (n := 0 - v) (by omega)]; simp
theorem absI_eq {n : Int} (h : -9223372036854775807 ≤ n ∧ n ≤ 9223372036854775807) : absI n = n.natAbs := by
  rw [absI, wrap_of (n := 0 - n) (by omega)]; split <;> omega
theorem varI_eq {n : Int} (h : -9223372036854775807 ≤ n ∧ n ≤ 9223372036854775807) : varI n = n.natAbs := by
  rw [varI, wrap_of (n := 0 - n) (by omega)]; split <;> omega
theorem okClause_false {v : Int} {c : List Int} {i : Nat} (hi : i < c.length) (h : okVars v = true → ¬ okAt v c i) : okClause v c = false := by
  cases hv : okVars v with
  | false => simp [okClause, hv]
  | true =>
    have : ¬ ∀ j, j < c.length → okAt v c j := fun hh => h hv (hh i hi)
    simp only [okClause, this, decide_false, Bool.and_false]
theorem okClause_true {v : Int} {c : List Int} (h : okVars v = true → ∀ j, j < c.length → okAt v c j) : okClause v c = okVars v := by
  cases hv : okVars v with
  | false => simp [okClause, hv]
  | true =>
    have := decide_eq_true (h hv)
    rw [okClause, this, hv, Bool.and_true]
theorem okAt_small {v : Int} {c : List Int} {j : Nat} (hv : okVars v = true) (h : okAt v c j) : -12 ≤ c.getD j 0 ∧ c.getD j 0 ≤ 12 := by
  rw [okVars_iff] at hv; obtain ⟨⟨_, _, _⟩, _⟩ := h; omega
theorem okAt_abs {v : Int} {c : List Int} {i : Nat} (f : Int → Int) (hf : ∀ n, -9223372036854775807 ≤ n ∧ n ≤ 9223372036854775807 → f n = n.natAbs) (hv : okVars v = true) (hI : ∀ j, j < i → okAt v c j) (hl : okLit v (c.getD i 0) = true) :
    okAt v c i ↔ (0 < i → f (c.getD (i - 1) 0) < f (c.getD i 0)) := by
  rw [okLit_iff hv] at hl
  have hv' := okVars_iff.1 hv
  rw [okAt, and_iff_right hl]
  refine imp_congr_right fun h0 => ?_
  have h1 := okAt_small hv (hI (i - 1) (by omega))
  rw [hf _ (by omega), hf (c.getD i 0) (by omega)]
  omega
theorem isClause_ok (v : Int) (c : List Int) (hl : c.length ≤ 4294967296) : Ctr Tryz.prog 64 [.int .i64 v, .ints c] false (.d (.bool (okClause v c))) [] := by
  refine Ctr.of (n := 36) (rs := [.tmp 4]) Tryz.func64 rfl rfl Tryz.ntmps64 rfl rfl (by kernel_rfl) Tryz.checked.mixed ?_
  simp (disch := first | omega | decide +kernel) only [D.ints, go_sem, zqa, zqb, zqc, zqd, zqe, ↓reduceIte, reduceCtorEq, zqf, zqg, zqh]
  refine Ok.loopC [33, 32, 31, 30, 29, 28, 27, 26, 25, 24, 23, 22, 21, 20, 19, 18, 17, 16, 15, 14, 13, 12, 11, 10, 9, 6, 5, 4, 3, 2] (fun i => [(9, .d (.int .i64 (i : Nat)))]) c.length (fun i => okVars v = true → ∀ j, j < i → okAt v c j) (by simp) (Wk.kk) ?_
  intro R i hN hE hi hI
  simp (disch := first | omega | decide +kernel) only [go_sem, zqa, zqb, zqc, zqd, zqe, ↓reduceIte, reduceCtorEq, zqf, zqg, zqh]
  (repeat' (first | ((first | (refine gsel_split (fun q' => ?_) (fun q' => ?_) <;> (have h' := q') <;> (try simp only [decide_eq_true_eq, decide_eq_false_iff_not, zba, zbb, bne_iff_ne, ne_eq, beq_iff_eq, bne_eq_false_iff_eq, beq_eq_false_iff_ne, zia, zib, zic, zid, zda, zbc, zbd, zbe, gt_iff_lt, ge_iff_le] at h')) | (have q' := trivial; first | refine callX_new (isLiteral_ok _ _) rfl (by decide) ?_ | refine callY_new (isLiteral_ok _ _) rfl ?_ | refine callX_new (abs_ok _) rfl (by decide) ?_ | refine callY_new (abs_ok _) rfl ?_ | refine callX_new (varsOk_ok _) rfl (by decide) ?_ | refine callY_new (varsOk_ok _) rfl ?_ | refine hE _ _ ret_ne ?_ | refine hE _ _ exit_ne ?_)) <;> (try simp (disch := first | omega | decide +kernel) only [q', go_sem, zqa, zqb, zqc, zqd, zqe, ↓reduceIte, reduceCtorEq, zqf, zqg, zqh]) <;> clear q') | (refine hN _ ?_ ?_ Wk.kk) | (with_reducible refine And.intro ?_ ?_) | (with_reducible omega) | (exact ok_ints) | (exact cells_ints) | (exact no_mem) | (with_reducible exact plain_ints) | (refine le_maxLen ?_; omega) | (refine List.forall_mem_cons.2 ⟨?_, ?_⟩) | (simp only [go_sem, zqc, zqb, List.mem_cons, List.not_mem_nil, forall_eq]; done)))
  · rename_i h1
    rw [okClause_false h1 fun hv h => by rw [(okLit_iff hv).2 h.1] at h'; cases h']
  · rename_i h1 h2 h3
    rw [okClause_false h1 fun hv h => by rw [okAt_abs absI (fun n => absI_eq) hv (hI hv) h2] at h; omega]
  · rename_i h1 h2 h3
    exact fun hv => all_succ (hI hv) ((okAt_abs absI (fun n => absI_eq) hv (hI hv) h2).2 fun _ => h')
  · rename_i h1 h2
    exact fun hv => all_succ (hI hv) ⟨(okLit_iff hv).1 h2, fun h => by omega⟩
  · rw [okClause_true fun hv j hj => hI hv j (by omega)]
theorem l2Clause_ok (v : Int) (c : List Int) (hl : c.length ≤ 4294967296) : Ctr Tryz.prog 60 [.int .i64 v, .ints c] false (.d (.bool (okClause v c))) [] := by
  refine Ctr.of (n := 40) (rs := [.tmp 4]) Tryz.func60 rfl rfl Tryz.ntmps60 rfl rfl (by kernel_rfl) Tryz.checked.mixed ?_
  simp (disch := first | omega | decide +kernel) only [D.ints, go_sem, zqa, zqb, zqc, zqd, zqe, ↓reduceIte, reduceCtorEq, zqf, zqg, zqh]
  (repeat' (first | ((first | (refine gsel_split (fun q' => ?_) (fun q' => ?_) <;> (have h' := q') <;> (try simp only [decide_eq_true_eq, decide_eq_false_iff_not, zba, zbb, bne_iff_ne, ne_eq, beq_iff_eq, bne_eq_false_iff_eq, beq_eq_false_iff_ne, zia, zib, zic, zid, zda, zbc, zbd, zbe, gt_iff_lt, ge_iff_le] at h')) | (have q' := trivial; first | refine callX_new (l2Vars_ok _) rfl (by decide) ?_ | refine callY_new (l2Vars_ok _) rfl ?_ | refine hE _ _ ret_ne ?_ | refine hE _ _ exit_ne ?_)) <;> (try simp (disch := first | omega | decide +kernel) only [q', go_sem, zqa, zqb, zqc, zqd, zqe, ↓reduceIte, reduceCtorEq, zqf, zqg, zqh]) <;> clear q') | (refine hN _ ?_ ?_ Wk.kk) | (with_reducible refine And.intro ?_ ?_) | (with_reducible omega) | (exact ok_ints) | (exact cells_ints) | (exact no_mem) | (with_reducible exact plain_ints) | (refine le_maxLen ?_; omega) | (refine List.forall_mem_cons.2 ⟨?_, ?_⟩) | (simp only [go_sem, zqc, zqb, List.mem_cons, List.not_mem_nil, forall_eq]; done)))
  · simp [okClause, h', D.plain]
  refine Ok.loopC [39, 38, 37, 36, 35, 34, 33, 32, 31, 30, 29, 28, 27, 26, 25, 24, 23, 22, 21, 20, 19, 18, 17, 16, 15, 14, 13, 12, 11, 10, 9, 8, 7, 6, 5, 4, 3, 2] (fun i => [(5, .d (.int .i64 (i : Nat)))]) c.length (fun i => ∀ j, j < i → okAt v c j) (by simp) (Wk.kk) ?_
  intro R i hN hE hi hI
  simp (disch := first | omega | decide +kernel) only [go_sem, zqa, zqb, zqc, zqd, zqe, ↓reduceIte, reduceCtorEq, zqf, zqg, zqh]
  (repeat' (first | ((first | (refine gsel_split (fun q' => ?_) (fun q' => ?_) <;> (have h' := q') <;> (try simp only [decide_eq_true_eq, decide_eq_false_iff_not, zba, zbb, bne_iff_ne, ne_eq, beq_iff_eq, bne_eq_false_iff_eq, beq_eq_false_iff_ne, zia, zib, zic, zid, zda, zbc, zbd, zbe, gt_iff_lt, ge_iff_le] at h')) | (have q' := trivial; first | refine callX_new (l2Lit_ok _ _) rfl (by decide) ?_ | refine callY_new (l2Lit_ok _ _) rfl ?_ | refine callX_new (l2Var_ok _) rfl (by decide) ?_ | refine callY_new (l2Var_ok _) rfl ?_ | refine hE _ _ ret_ne ?_ | refine hE _ _ exit_ne ?_)) <;> (try simp (disch := first | omega | decide +kernel) only [q', go_sem, zqa, zqb, zqc, zqd, zqe, ↓reduceIte, reduceCtorEq, zqf, zqg, zqh]) <;> clear q') | (refine hN _ ?_ ?_ Wk.kk) | (with_reducible refine And.intro ?_ ?_) | (with_reducible omega) | (exact ok_ints) | (exact cells_ints) | (exact no_mem) | (with_reducible exact plain_ints) | (refine le_maxLen ?_; omega) | (refine List.forall_mem_cons.2 ⟨?_, ?_⟩) | (simp only [go_sem, zqc, zqb, List.mem_cons, List.not_mem_nil, forall_eq]; done)))
  · rename_i hv h1
    rw [okClause_false h1 fun hv h => by rw [(okLit_iff hv).2 h.1] at h'; cases h']
  · rename_i hv h1 h2 h3
    rw [okClause_false h1 fun hv h => by rw [okAt_abs varI (fun n => varI_eq) hv hI h2] at h; omega]
  · rename_i hv h1 h2 h3
    exact all_succ hI ((okAt_abs varI (fun n => varI_eq) hv hI h2).2 fun _ => h')
  · rename_i hv h1 h2
    exact all_succ hI ⟨(okLit_iff hv).1 h2, fun h => by omega⟩
  · rename_i hv
    rw [okClause_true fun hv j hj => hI j (by omega), hv]
end Abs.Y

namespace Abs
open Go Go.RowKit

theorem ofInt_nat (a : Nat) : BitVec.ofInt 64 (a : Int) = BitVec.ofNat 64 a := by
  apply BitVec.eq_of_toNat_eq; simp [BitVec.toNat_ofInt]
theorem bitV_or {a b : Nat} (ha : a < 2 ^ 63) (hb : b < 2 ^ 63) : bitV .or .i64 a b = ((a ||| b : Nat) : Int) := by
  have h : a ||| b < 2 ^ 63 := Nat.or_lt_two_pow ha hb
  show IntKind.wrap .i64 (((BitVec.ofInt 64 (a : Int)) ||| (BitVec.ofInt 64 (b : Int))).toNat : Nat) = _
  rw [ofInt_nat, ofInt_nat, BitVec.toNat_or, BitVec.toNat_ofNat, BitVec.toNat_ofNat, Nat.mod_eq_of_lt (by omega), Nat.mod_eq_of_lt (by omega), wrap_of (by omega)]
theorem shl_one {e : Nat} (he : e ≤ 62) : IntKind.wrap .i64 (1 * 2 ^ min e (IntKind.bits .i64)) = ((2 ^ e : Nat) : Int) := by
  have h : 2 ^ e ≤ 2 ^ 62 := Nat.pow_le_pow_right (by decide) he
  rw [show min e (IntKind.bits .i64) = e by simp [IntKind.bits]; omega, Int.one_mul]
  have e1 : ((2 : Int) ^ e) = ((2 ^ e : Nat) : Int) := by simp
  rw [e1]
  generalize 2 ^ e = x at *
  rw [wrap_of (by omega)]
def bitI (b k : Nat) : Int := if b.testBit k then 1 else 0
end Abs

namespace Abs.Y
open Go Go.Proofs Abs
open Nat renaming reduceEqDiff → zqa, reduceLT → zqb, reduceAdd → zqc, reduceMul → zqd, reduceSub → zqe, reduceLeDiff → zqf, reduceSubDiff → zqg, reduceBEq → zqh
open Bool renaming not_eq_true' → zba, not_eq_false' → zbb, and_eq_true → zbc, or_eq_true → zbd, or_eq_false_iff → zbe
open Int renaming ofNat_lt → zia, ofNat_le → zib, not_lt → zic, not_le → zid
open Decidable renaming not_not → zda
set_option maxRecDepth 100000

def Vec (p : Int) (n : Nat) (v : List Int) : Prop := v.length = n ∧ ∀ i, 0 ≤ v.getD i 0 ∧ v.getD i 0 < p
def stP (p : Int) (v : List Int) (m : Nat) (c : Int) : List Int := v.set m ((v.getD m 0 + c) % p)
theorem getD_set (v : List Int) (m : Nat) (x : Int) (i : Nat) : (v.set m x).getD i 0 = if m = i ∧ i < v.length then x else v.getD i 0 := by
  rw [List.getD_eq_getElem?_getD, List.getElem?_set, List.getD_eq_getElem?_getD]
  by_cases e : m = i
  · subst e
    by_cases h : m < v.length
    · simp [h]
    · simp [h]
  · simp [e]
theorem Vec.st {p : Int} {n : Nat} {v : List Int} (hp : 0 < p) (h : Vec p n v) (m : Nat) (c : Int) : Vec p n (stP p v m c) := by
  refine ⟨by simp [stP, h.1], fun i => ?_⟩
  rw [stP, getD_set]
  split
  · exact ⟨Int.emod_nonneg _ (by omega), Int.emod_lt_of_pos _ hp⟩
  · exact h.2 i
theorem Vec.zero {p : Int} (hp : 0 < p) (n : Nat) : Vec p n (List.replicate n 0) := by
  refine ⟨by simp, fun i => ?_⟩
  rw [List.getD_eq_getElem?_getD, List.getElem?_replicate]
  split <;> simp <;> omega
theorem st_zero {p : Int} {n : Nat} {v : List Int} (h : Vec p n v) (m : Nat) : stP p v m 0 = v := by
  have hm := h.2 m
  unfold stP
  rw [Int.add_zero, Int.emod_eq_of_lt hm.1 hm.2]
  by_cases hl : m < v.length
  · rw [List.getD_eq_getElem?_getD, List.getElem?_eq_getElem hl, Option.getD_some, List.set_getElem_self]
  · rw [List.set_eq_of_length_le (by omega)]
def spT (v : List Int) : List (Int × Int) := ((List.range v.length).filter fun m => decide (v.getD m 0 ≠ 0)).map fun m : Nat => ((m : Int), v.getD m 0)
theorem fold_sp {α : Type} (I : α → Prop) (g : α → Nat → Int → α) (v : List Int) (hI : ∀ a m c, I a → I (g a m c)) (h0 : ∀ a m, I a → g a m 0 = a) :
    ∀ (r : List Nat) (a : α), I a → ((r.filter fun m => decide (v.getD m 0 ≠ 0)).map fun m : Nat => ((m : Int), v.getD m 0)).foldl (fun a (t : Int × Int) => g a t.1.toNat t.2) a = r.foldl (fun a m => g a m (v.getD m 0)) a
  | [], _, _ => rfl
  | m :: r, a, ha => by
    by_cases hz : v.getD m 0 = 0
    · rw [List.filter_cons_of_neg (by rw [decide_eq_true_eq]; exact fun h => h hz), List.foldl_cons, hz, h0 a m ha]
      exact fold_sp I g v hI h0 r a ha
    · rw [List.filter_cons_of_pos (by rw [decide_eq_true_eq]; exact hz), List.map_cons, List.foldl_cons, List.foldl_cons]
      simp only [Int.toNat_natCast]
      exact fold_sp I g v hI h0 r _ (hI a m _ ha)
def rowD (p : Int) (b : List Int) (m : Nat) (c : Int) (v : List Int) : List Int := (List.range b.length).foldl (fun v n => stP p v (m ||| n) (c * b.getD n 0)) v
def mulD (p : Int) (n : Nat) (a b : List Int) : List Int := (List.range a.length).foldl (fun v m => rowD p b m (a.getD m 0) v) (List.replicate n 0)
def rowS (p : Int) (b : List (Int × Int)) (m : Nat) (c : Int) (v : List Int) : List Int := b.foldl (fun v (t : Int × Int) => stP p v (m ||| t.1.toNat) (c * t.2)) v
def mulS (p : Int) (n : Nat) (a b : List (Int × Int)) : List Int := a.foldl (fun v (s : Int × Int) => rowS p b s.1.toNat s.2 v) (List.replicate n 0)
theorem fold_vec {α : Type} {p : Int} {n : Nat} {f : List Int → α → List Int} (hf : ∀ v x, Vec p n v → Vec p n (f v x)) : ∀ (r : List α) {v : List Int}, Vec p n v → Vec p n (r.foldl f v)
  | [], _, h => h
  | x :: r, v, h => fold_vec hf r (hf v x h)
theorem Vec.rowS {p : Int} {n : Nat} {v : List Int} (hp : 0 < p) (h : Vec p n v) (b : List (Int × Int)) (m : Nat) (c : Int) : Vec p n (rowS p b m c v) :=
  fold_vec (fun v t h => h.st hp _ _) b h
theorem Vec.rowD {p : Int} {n : Nat} {v : List Int} (hp : 0 < p) (h : Vec p n v) (b : List Int) (m : Nat) (c : Int) : Vec p n (rowD p b m c v) :=
  fold_vec (fun v t h => h.st hp _ _) _ h
theorem Vec.mulD {p : Int} (hp : 0 < p) (n : Nat) (a b : List Int) : Vec p n (mulD p n a b) := fold_vec (fun v m h => h.rowD hp b m _) _ (Vec.zero hp n)
theorem row_eq {p : Int} {n : Nat} {b : List Int} (hp : 0 < p) {v : List Int} (h : Vec p n v) (m : Nat) (c : Int) : rowS p (spT b) m c v = rowD p b m c v := by
  refine fold_sp (Vec p n) (fun v k d => stP p v (m ||| k) (c * d)) b (fun v k d h => h.st hp _ _) (fun v k h => ?_) (List.range b.length) v h
  show stP p v (m ||| k) (c * 0) = v
  rw [Int.mul_zero]; exact st_zero h _
theorem row_zero {p : Int} {n : Nat} {v : List Int} (h : Vec p n v) (b : List (Int × Int)) (m : Nat) : rowS p b m 0 v = v := by
  induction b with
  | nil => rfl
  | cons t r ih =>
    show rowS p r m 0 (stP p v (m ||| t.1.toNat) (0 * t.2)) = v
    rw [Int.zero_mul, st_zero h]; exact ih
theorem mul_eq {p : Int} {n : Nat} {a b : List Int} (hp : 0 < p) : mulS p n (spT a) (spT b) = mulD p n a b := by
  have h1 := fold_sp (Vec p n) (fun v m c => rowS p (spT b) m c v) a (fun v m c h => h.rowS hp _ m c) (fun v m h => row_zero h _ m) (List.range a.length) (List.replicate n 0) (Vec.zero hp n)
  show (spT a).foldl _ _ = _
  refine Eq.trans h1 ?_
  unfold mulD
  have : ∀ (r : List Nat) (v : List Int), Vec p n v → r.foldl (fun v m => rowS p (spT b) m (a.getD m 0) v) v = r.foldl (fun v m => rowD p b m (a.getD m 0) v) v := by
    intro r
    induction r with
    | nil => intro v _; rfl
    | cons m r ih =>
      intro v h
      rw [List.foldl_cons, List.foldl_cons, row_eq hp h]
      exact ih _ (h.rowD hp b m _)
  exact this _ _ (Vec.zero hp n)
def addD (p k : Int) (a b : List Int) : List Int := List.zipWith (fun x y => (x + k * y) % p) a b
theorem getD_zip (f : Int → Int → Int) (a b : List Int) (h : a.length = b.length) (i : Nat) (hi : i < a.length) : (List.zipWith f a b).getD i 0 = f (a.getD i 0) (b.getD i 0) := by
  simp only [List.getD_eq_getElem?_getD, List.getElem?_zipWith]
  rw [List.getElem?_eq_getElem (by omega), List.getElem?_eq_getElem (by omega)]; rfl
theorem Vec.addD {p k : Int} {n : Nat} {a b : List Int} (hp : 0 < p) (ha : a.length = n) (hb : b.length = n) : Vec p n (addD p k a b) := by
  refine ⟨by simp [Y.addD, ha, hb], fun i => ?_⟩
  by_cases hi : i < a.length
  · rw [Y.addD, getD_zip _ _ _ (by omega) i hi]
    exact ⟨Int.emod_nonneg _ (by omega), Int.emod_lt_of_pos _ hp⟩
  · rw [List.getD_eq_getElem?_getD, List.getElem?_eq_none (by simp [Y.addD]; omega)]; simp; omega
end Abs.Y

namespace Abs.Y
open Go Go.Proofs Abs
open Nat renaming reduceEqDiff → zqa, reduceLT → zqb, reduceAdd → zqc, reduceMul → zqd, reduceSub → zqe, reduceLeDiff → zqf, reduceSubDiff → zqg, reduceBEq → zqh
open Bool renaming not_eq_true' → zba, not_eq_false' → zbb, and_eq_true → zbc, or_eq_true → zbd, or_eq_false_iff → zbe
open Int renaming ofNat_lt → zia, ofNat_le → zib, not_lt → zic, not_le → zid
open Decidable renaming not_not → zda
set_option maxRecDepth 100000

theorem getD_oob {a : List Int} {i : Nat} (h : a.length ≤ i) : a.getD i 0 = 0 := by
  rw [List.getD_eq_getElem?_getD, List.getElem?_eq_none h]; rfl
theorem addD_len {p k : Int} {a b : List Int} (h : a.length = b.length) : (addD p k a b).length = a.length := by simp [addD, h]
theorem addD_get {p k : Int} {a b : List Int} (h : a.length = b.length) (i : Nat) : (addD p k a b).getD i 0 = (a.getD i 0 + k * b.getD i 0) % p := by
  by_cases hi : i < a.length
  · exact getD_zip _ a b h i hi
  · rw [getD_oob (by rw [addD_len h]; omega), getD_oob (a := a) (by omega), getD_oob (a := b) (by omega)]; simp
theorem vec_ext {p : Int} {n : Nat} {a b : List Int} (ha : a.length = n) (hb : b.length = n) (h : ∀ i, a.getD i 0 = b.getD i 0) : a = b :=
  ext_getDz 0 (by rw [ha, hb]) fun i _ => h i
theorem emod_eq_of {p x y : Int} (t : Int) (h : x = y + p * t) : x % p = y % p := by rw [h, Int.add_mul_emod_self_left]
theorem emod_wit (p x : Int) : ∃ t, x % p = x + p * t := ⟨-(x / p), by rw [Int.emod_def, Int.mul_neg]; omega⟩
theorem addD_addD {p k j : Int} {n : Nat} {v w r : List Int} (hv : v.length = n) (hw : w.length = n) (hr : r.length = n) : addD p k v (addD p j w r) = addD p (k * j) (addD p k v w) r := by
  have h1 : (addD p j w r).length = n := by rw [addD_len (by omega), hw]
  have h2 : (addD p k v w).length = n := by rw [addD_len (by omega), hv]
  refine vec_ext (p := p) (n := n) (by rw [addD_len (by omega), hv]) (by rw [addD_len (by omega), h2]) fun i => ?_
  rw [addD_get (by omega), addD_get (by omega), addD_get (by omega), addD_get (by omega)]
  obtain ⟨t1, e1⟩ := emod_wit p (w.getD i 0 + j * r.getD i 0)
  obtain ⟨t2, e2⟩ := emod_wit p (v.getD i 0 + k * w.getD i 0)
  rw [e1, e2]
  exact emod_eq_of (k * t1 - t2) (by grind)
theorem addD_same {p k j : Int} {n : Nat} {v r : List Int} (hv : v.length = n) (hr : r.length = n) : addD p k (addD p j v r) r = addD p (j + k) v r := by
  have h1 : (addD p j v r).length = n := by rw [addD_len (by omega), hv]
  refine vec_ext (p := p) (n := n) (by rw [addD_len (by omega), h1]) (by rw [addD_len (by omega), hv]) fun i => ?_
  rw [addD_get (by omega), addD_get (by omega), addD_get (by omega)]
  obtain ⟨t1, e1⟩ := emod_wit p (v.getD i 0 + j * r.getD i 0)
  rw [e1]
  exact emod_eq_of t1 (by grind)
theorem addD_mul {p k : Int} {n : Nat} {v r : List Int} (t : Int) (hk : k = p * t) (hv : Vec p n v) (hr : r.length = n) : addD p k v r = v := by
  have hl := hv.1
  refine vec_ext (p := p) (n := n) (by rw [addD_len (by omega), hv.1]) hv.1 fun i => ?_
  rw [addD_get (by omega)]
  have h := hv.2 i
  rw [emod_eq_of (y := v.getD i 0) (t * r.getD i 0) (by rw [hk]; grind), Int.emod_eq_of_lt h.1 h.2]
theorem getD_rep (n i : Nat) : (List.replicate n (0 : Int)).getD i 0 = 0 := by
  rw [List.getD_eq_getElem?_getD, List.getElem?_replicate]; split <;> rfl
theorem addD_z {p k : Int} {n : Nat} {v : List Int} (hv : Vec p n v) : addD p k v (List.replicate n 0) = v := by
  have hl := hv.1
  refine vec_ext (p := p) (n := n) (by rw [addD_len (by simp; omega), hv.1]) hv.1 fun i => ?_
  have h := hv.2 i
  rw [addD_get (by simp; omega), getD_rep, Int.mul_zero, Int.add_zero, Int.emod_eq_of_lt h.1 h.2]
theorem zero_addD {p : Int} {n : Nat} {v : List Int} (hv : Vec p n v) : addD p 1 (List.replicate n 0) v = v := by
  have hl := hv.1
  refine vec_ext (p := p) (n := n) (by rw [addD_len (by simp; omega)]; simp) hv.1 fun i => ?_
  have h := hv.2 i
  rw [addD_get (by simp; omega), getD_rep, Int.zero_add, Int.one_mul, Int.emod_eq_of_lt h.1 h.2]
theorem vec_zero_iff {p : Int} {n : Nat} {v : List Int} (hv : v.length = n) : v = List.replicate n 0 ↔ ∀ i, v.getD i 0 = 0 := by
  constructor
  · intro h i; rw [h, getD_rep]
  · intro h; exact vec_ext (p := p) (n := n) hv (by simp) fun i => by rw [h i, getD_rep]
inductive Sp (p : Int) (n : Nat) (R : List (List Int)) : List Int → Prop
  | zero : Sp p n R (List.replicate n 0)
  | add {v r : List Int} (k : Int) : Sp p n R v → r ∈ R → Sp p n R (addD p k v r)
def AllV (p : Int) (n : Nat) (R : List (List Int)) : Prop := ∀ r ∈ R, Vec p n r
section
variable {p : Int} {n : Nat} (hp : 0 < p)
include hp
theorem Sp.vec {R : List (List Int)} {v : List Int} (hR : AllV p n R) (h : Sp p n R v) : Vec p n v := by
  induction h with
  | zero => exact Vec.zero hp n
  | add k _ hr ih => exact Vec.addD hp ih.1 (hR _ hr).1
theorem Sp.plus {R : List (List Int)} {v w : List Int} (hR : AllV p n R) (k : Int) (hv : Sp p n R v) (hw : Sp p n R w) : Sp p n R (addD p k v w) := by
  induction hw with
  | zero => rw [addD_z (hv.vec hp hR)]; exact hv
  | add j hw hr ih =>
    rw [addD_addD (n := n) (hv.vec hp hR).1 (hw.vec hp hR).1 (hR _ hr).1]
    exact .add _ ih hr
theorem Sp.self {R : List (List Int)} {r : List Int} (hR : AllV p n R) (hr : r ∈ R) : Sp p n R r := by
  rw [← zero_addD (hR r hr)]
  exact .add 1 .zero hr
theorem Sp.trans {R R' : List (List Int)} {v : List Int} (hR' : AllV p n R') (h : ∀ r ∈ R, Sp p n R' r) (hv : Sp p n R v) : Sp p n R' v := by
  induction hv with
  | zero => exact .zero
  | add k _ hr ih => exact ih.plus hp hR' k (h _ hr)
def redD (p : Int) (ld : List Int → Nat) (R : List (List Int)) (a : List Int) : List Int := R.foldl (fun a r => addD p (p - a.getD (ld r) 0) a r) a
omit hp in
theorem redD_cons (ld : List Int → Nat) (r : List Int) (R : List (List Int)) (a : List Int) : redD p ld (r :: R) a = redD p ld R (addD p (p - a.getD (ld r) 0) a r) := rfl
theorem redD_vec (ld : List Int → Nat) {R : List (List Int)} : ∀ {a : List Int}, AllV p n R → Vec p n a → Vec p n (redD p ld R a) := by
  induction R with
  | nil => exact fun _ h => h
  | cons r R ih => exact fun hR ha => ih (fun x hx => hR x (by simp [hx])) (Vec.addD hp ha.1 (hR r (by simp)).1)
theorem redD_lin (ld : List Int → Nat) {R : List (List Int)} : ∀ {v w : List Int} (k : Int), AllV p n R → Vec p n v → Vec p n w → redD p ld R (addD p k v w) = addD p k (redD p ld R v) (redD p ld R w) := by
  induction R with
  | nil => exact fun _ _ _ _ => rfl
  | cons r R ih =>
    intro v w k hR hv hw
    have hr := hR r (by simp)
    have hl := hv.1
    have hl2 := hw.1
    have hl3 := hr.1
    rw [redD_cons, redD_cons, redD_cons, ← ih k (fun x hx => hR x (by simp [hx])) (Vec.addD hp hv.1 hr.1) (Vec.addD hp hw.1 hr.1)]
    congr 1
    have h1 : (addD p k v w).length = n := by rw [addD_len (by omega), hl]
    have h2 : (addD p (p - v.getD (ld r) 0) v r).length = n := by rw [addD_len (by omega), hl]
    have h3 : (addD p (p - w.getD (ld r) 0) w r).length = n := by rw [addD_len (by omega), hl2]
    refine vec_ext (p := p) (n := n) (by rw [addD_len (by omega), h1]) (by rw [addD_len (by omega), h2]) fun i => ?_
    rw [addD_get (by omega), addD_get (by omega), addD_get (by omega), addD_get (by omega), addD_get (by omega), addD_get (by omega)]
    obtain ⟨t1, e1⟩ := emod_wit p (v.getD i 0 + k * w.getD i 0)
    obtain ⟨t2, e2⟩ := emod_wit p (v.getD (ld r) 0 + k * w.getD (ld r) 0)
    obtain ⟨t3, e3⟩ := emod_wit p (v.getD i 0 + (p - v.getD (ld r) 0) * r.getD i 0)
    obtain ⟨t4, e4⟩ := emod_wit p (w.getD i 0 + (p - w.getD (ld r) 0) * r.getD i 0)
    rw [e1, e2, e3, e4]
    exact emod_eq_of (t1 - t2 * r.getD i 0 - t3 - k * r.getD i 0 - k * t4) (by grind)
theorem redD_zero (ld : List Int → Nat) {R : List (List Int)} (hR : AllV p n R) : redD p ld R (List.replicate n 0) = List.replicate n 0 := by
  induction R with
  | nil => rfl
  | cons r R ih =>
    rw [redD_cons, getD_rep, Int.sub_zero, addD_mul 1 (by omega) (Vec.zero hp n) (hR r (by simp)).1]
    exact ih fun x hx => hR x (by simp [hx])
def Tri (ld : List Int → Nat) (R : List (List Int)) : Prop := (∀ r ∈ R, r.getD (ld r) 0 = 1) ∧ R.Pairwise fun r s => s.getD (ld r) 0 = 0
theorem redD_row (ld : List Int → Nat) {R : List (List Int)} (hR : AllV p n R) (hT : Tri ld R) : ∀ r ∈ R, redD p ld R r = List.replicate n 0 := by
  induction R with
  | nil => exact fun r hr => by cases hr
  | cons r0 R ih =>
    intro r hr
    have hr0 := hR r0 (by simp)
    have hR' : AllV p n R := fun x hx => hR x (by simp [hx])
    obtain ⟨h1, h2⟩ := hT
    rw [List.pairwise_cons] at h2
    rw [redD_cons]
    rcases List.mem_cons.1 hr with rfl | hr
    · have hz : addD p (p - r.getD (ld r) 0) r r = List.replicate n 0 := by
        refine (vec_zero_iff (p := p) (by rw [addD_len rfl, hr0.1])).2 fun i => ?_
        rw [addD_get rfl, h1 r (by simp)]
        rw [emod_eq_of (y := 0) (r.getD i 0) (by grind)]; simp
      rw [hz]
      exact redD_zero hp ld hR'
    · rw [h2.1 r hr, Int.sub_zero, addD_mul 1 (by omega) (hR' r hr) hr0.1]
      exact ih hR' ⟨fun x hx => h1 x (by simp [hx]), h2.2⟩ r hr
theorem redD_sp (ld : List Int → Nat) {R : List (List Int)} {v : List Int} (hR : AllV p n R) (hT : Tri ld R) (hv : Sp p n R v) : redD p ld R v = List.replicate n 0 := by
  induction hv with
  | zero => exact redD_zero hp ld hR
  | add k h hr ih =>
    rw [redD_lin hp ld k hR (h.vec hp hR) (hR _ hr), ih, redD_row hp ld hR hT _ hr]
    exact addD_z (Vec.zero hp n)
theorem redD_in (ld : List Int → Nat) {R R' : List (List Int)} (hR' : AllV p n R') : ∀ {a : List Int}, AllV p n R → (∀ r ∈ R, Sp p n R' r) → Vec p n a → (Sp p n R' (redD p ld R a) ↔ Sp p n R' a) := by
  induction R with
  | nil => exact fun _ _ _ => Iff.rfl
  | cons r R ih =>
    intro a hR hS ha
    have hr := hR r (by simp)
    have hrS := hS r (by simp)
    rw [redD_cons, ih (fun x hx => hR x (by simp [hx])) (fun x hx => hS x (by simp [hx])) (Vec.addD hp ha.1 hr.1)]
    generalize p - a.getD (ld r) 0 = c
    constructor
    · intro h
      have := h.plus hp hR' (-c) hrS
      rwa [addD_same (n := n) ha.1 hr.1, addD_mul 0 (by omega) ha hr.1] at this
    · exact fun h => h.plus hp hR' c hrS
theorem red_iff (ld : List Int → Nat) {R : List (List Int)} {a : List Int} (hR : AllV p n R) (hT : Tri ld R) (ha : Vec p n a) : redD p ld R a = List.replicate n 0 ↔ Sp p n R a := by
  constructor
  · intro h
    have h1 := redD_in hp ld (a := a) hR hR (fun r hr => Sp.self hp hR hr) ha
    rw [h] at h1
    exact h1.1 .zero
  · exact redD_sp hp ld hR hT
theorem redD_lead (ld : List Int → Nat) {R : List (List Int)} (hR : AllV p n R) (hT : Tri ld R) : ∀ {a : List Int}, Vec p n a → ∀ r ∈ R, (redD p ld R a).getD (ld r) 0 = 0 := by
  have stay : ∀ (R : List (List Int)) (m : Nat) (a : List Int), AllV p n R → (∀ r ∈ R, r.getD m 0 = 0) → Vec p n a → a.getD m 0 = 0 → (redD p ld R a).getD m 0 = 0 := by
    intro R m
    induction R with
    | nil => exact fun a _ _ _ h => h
    | cons r R ih =>
      intro a hR h ha h0
      have hr := hR r (by simp)
      rw [redD_cons]
      refine ih _ (fun x hx => hR x (by simp [hx])) (fun x hx => h x (by simp [hx])) (Vec.addD hp ha.1 hr.1) ?_
      rw [addD_get (by rw [ha.1, hr.1]), h0, h r (by simp)]; simp
  induction R with
  | nil =>
    intro a _ r hr
    cases hr
  | cons r0 R ih =>
    intro a ha r hr
    have hr0 := hR r0 (by simp)
    have hR' : AllV p n R := fun x hx => hR x (by simp [hx])
    obtain ⟨h1, h2⟩ := hT
    rw [List.pairwise_cons] at h2
    have hv := Vec.addD (p := p) (k := p - a.getD (ld r0) 0) hp ha.1 hr0.1
    rw [redD_cons]
    rcases List.mem_cons.1 hr with rfl | hr
    · refine stay R _ _ hR' h2.1 hv ?_
      rw [addD_get (by rw [ha.1, hr0.1]), h1 r (by simp), Int.mul_one]
      rw [emod_eq_of (y := 0) 1 (by omega)]; simp
    · exact ih hR' ⟨fun x hx => h1 x (by simp [hx]), h2.2⟩ hv r hr
def SpEq (p : Int) (n : Nat) (R R' : List (List Int)) : Prop := ∀ v, Sp p n R v ↔ Sp p n R' v
theorem sp_tri (ld : List Int → Nat) {R : List (List Int)} {a : List Int} {k c : Int} (hR : AllV p n R) (ha : Vec p n a) (hk : k * c % p = 1) : SpEq p n (R ++ [addD p k (List.replicate n 0) (redD p ld R a)]) (R ++ [a]) := by
  have hrest := redD_vec hp ld hR ha
  have hn := Vec.addD (p := p) (k := k) hp (a := List.replicate n 0) (n := n) (by simp) hrest.1
  have hA : AllV p n (R ++ [a]) := fun x hx => by
    rcases List.mem_append.1 hx with h | h
    · exact hR x h
    · rw [List.mem_singleton.1 h]; exact ha
  have hB : AllV p n (R ++ [addD p k (List.replicate n 0) (redD p ld R a)]) := fun x hx => by
    rcases List.mem_append.1 hx with h | h
    · exact hR x h
    · rw [List.mem_singleton.1 h]; exact hn
  have hback : addD p c (List.replicate n 0) (addD p k (List.replicate n 0) (redD p ld R a)) = redD p ld R a := by
    have hl := hrest.1
    rw [addD_addD (n := n) (by simp) (by simp) hl, addD_z (Vec.zero hp n)]
    refine vec_ext (p := p) (n := n) (by rw [addD_len (by simp; omega)]; simp) hl fun i => ?_
    have h := hrest.2 i
    rw [addD_get (by simp; omega), getD_rep, Int.zero_add]
    obtain ⟨t, e⟩ := emod_wit p (k * c)
    rw [hk] at e
    rw [emod_eq_of (y := (redD p ld R a).getD i 0) (-t * (redD p ld R a).getD i 0) (by grind), Int.emod_eq_of_lt h.1 h.2]
  intro v
  constructor
  · refine Sp.trans hp hA fun r hr => ?_
    rcases List.mem_append.1 hr with h | h
    · exact Sp.self hp hA (List.mem_append.2 (.inl h))
    · rw [List.mem_singleton.1 h]
      refine Sp.plus hp hA k .zero ?_
      refine (redD_in hp ld hA hR (fun x hx => Sp.self hp hA (List.mem_append.2 (.inl hx))) ha).2 ?_
      exact Sp.self hp hA (List.mem_append.2 (.inr (List.mem_singleton.2 rfl)))
  · refine Sp.trans hp hB fun r hr => ?_
    rcases List.mem_append.1 hr with h | h
    · exact Sp.self hp hB (List.mem_append.2 (.inl h))
    · rw [List.mem_singleton.1 h]
      refine (redD_in hp ld hB hR (fun x hx => Sp.self hp hB (List.mem_append.2 (.inl hx))) ha).1 ?_
      have h9 := Sp.plus hp hB c .zero (Sp.self hp hB (List.mem_append.2 (.inr (List.mem_singleton.2 rfl))))
      rwa [hback] at h9
end
end Abs.Y
