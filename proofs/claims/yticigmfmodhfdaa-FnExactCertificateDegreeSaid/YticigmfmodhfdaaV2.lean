/- What functions of this program compute, as contracts over plain data, with what the proofs need of them. No condition. -/
import Derived.Test.YticigmfmodhfdaaV1
import Derived.Test.YticigmfmodhfdaaAbsBox
set_option linter.all false
namespace Abs.Y
open Go Go.Proofs Abs
set_option maxRecDepth 100000

/-! ### Literals and clauses -/
def litD (p : Int) (u : Nat) (l : Int) : List Int := if 0 < l then monoD u (2 ^ (l - 1).toNat) else addD p (p - 1) (monoD u 0) (monoD u (2 ^ (0 - l - 1).toNat))
def clauseD (p : Int) (u : Nat) (c : List Int) : List Int := c.foldl (fun v l => mulD p (2 ^ u) v (litD p u (0 - l))) (monoD u 0)
/-- A literal of u variables. -/
def LitU (u : Nat) (l : Int) : Prop := (1 ≤ l ∧ l ≤ u) ∨ (1 ≤ 0 - l ∧ 0 - l ≤ u)
theorem mono_len (u m : Nat) : (monoD u m).length = 2 ^ u := by simp [monoD]
theorem Vec.lit {p : Int} (hp : 1 < p) (u : Nat) (l : Int) : Vec p (2 ^ u) (litD p u l) := by
  unfold litD
  split
  · exact Vec.mono hp u _
  · exact Vec.addD (by omega) (mono_len _ _) (mono_len _ _)
theorem Vec.clause {p : Int} (hp : 1 < p) (u : Nat) (c : List Int) : Vec p (2 ^ u) (clauseD p u c) := by
  unfold clauseD
  refine fold_vec (fun v l h => Vec.mulD (by omega) _ _ _) c (Vec.mono hp u 0)
theorem two_pow_lt {u e : Nat} (h : e < u) : 2 ^ e < 2 ^ u := Nat.pow_lt_pow_right (by decide) h
section
variable {p : Int} {u : Nat} (hp : 1 < p ∧ p ≤ 5) (hu : u ≤ 6)
include hp hu
set_option maxHeartbeats 4000000 in
theorem literal_ok {l : Int} (hl : LitU u l) : Ctr Try.prog 262 [D.ring p u, .int .i64 l] true (.d (.ints (litD p u l))) [] := by
  have h2 := pow_le6 hu
  have h1 : 0 < 2 ^ u := Nat.pow_pos (by decide)
  unfold litD
  by_cases h : 0 < l
  · rw [if_pos h]
    have hlu : l ≤ u := by unfold LitU at hl; omega
    obtain ⟨k, hk⟩ : ∃ k : Nat, (l - 1).toNat = k := ⟨_, rfl⟩
    have hlk : l - 1 = (k : Int) := by omega
    have hl2 : l = (k : Int) + 1 := by omega
    rw [hk]
    have e : IntKind.wrap .i64 (1 * 2 ^ min k 64) = ((2 ^ k : Nat) : Int) := shl_one (by omega)
    have c1 := Ctr.data1 (mono_ok hp hu (m := 2 ^ k) (two_pow_lt (by omega)))
    subst hl2
    have hw : (k : Int) + 1 - 1 = (k : Int) := by omega
    generalize monoD u (2 ^ k) = r at *
    generalize 2 ^ k = m at *
    refine Ctr.of (n := 25) (rs := [.tmp 4]) Try.func262 rfl rfl Try.ntmps262 rfl rfl (by kernel_rfl) Try.checked.mixed ?_
    simp (disch := first | omega | decide +kernel) only [hw, e, go_sem, Nat.reduceEqDiff, Nat.reduceLT, Nat.reduceAdd, Nat.reduceMul, Nat.reduceSub, ↓reduceIte, reduceCtorEq, Nat.reduceLeDiff, Nat.reduceSubDiff, Nat.reduceBEq]
    (repeat' (first | (refine gsel_split (fun h => ?_) (fun h => ?_) <;> (have h' := h) <;> (try simp only [decide_eq_true_eq, decide_eq_false_iff_not, Bool.not_eq_true', Bool.not_eq_false', bne_iff_ne, ne_eq, beq_iff_eq, bne_eq_false_iff_eq, beq_eq_false_iff_ne, Int.ofNat_lt, Int.ofNat_le, Int.not_lt, Int.not_le, Decidable.not_not, Bool.and_eq_true, Bool.or_eq_true, Bool.or_eq_false_iff, gt_iff_lt, ge_iff_le] at h') <;> first | (exfalso; omega) | (simp (disch := first | omega | decide +kernel) only [h, hw, e, D.ints, go_sem, Nat.reduceEqDiff, Nat.reduceLT, Nat.reduceAdd, Nat.reduceMul, Nat.reduceSub, ↓reduceIte, reduceCtorEq, Nat.reduceLeDiff, Nat.reduceSubDiff, Nat.reduceBEq] <;> clear h)) | ((first | refine callX_shared (c1) rfl (by decide) ?_ | refine callY_shared (c1) rfl ?_ | refine hE _ _ ret_ne ?_ | refine hE _ _ exit_ne ?_) <;> try simp (disch := first | omega | decide +kernel) only [hw, e, D.ints, go_sem, Nat.reduceEqDiff, Nat.reduceLT, Nat.reduceAdd, Nat.reduceMul, Nat.reduceSub, ↓reduceIte, reduceCtorEq, Nat.reduceLeDiff, Nat.reduceSubDiff, Nat.reduceBEq]) | (refine hN _ ?_ ?_ Wk.kk) | (with_reducible refine And.intro ?_ ?_) | (with_reducible omega) | (exact ok_ints) | (exact cells_ints) | (exact no_mem) | (with_reducible exact plain_ints) | (refine le_maxLen ?_; omega) | (refine List.forall_mem_cons.2 ⟨?_, ?_⟩) | (simp only [go_sem, Nat.reduceAdd, Nat.reduceLT, List.mem_cons, List.not_mem_nil, forall_eq]; done)))
    all_goals (first | omega | exact ret_s1 [] rfl | trace_state)
  · rw [if_neg h]
    have hlu : 1 ≤ 0 - l ∧ 0 - l ≤ u := by unfold LitU at hl; omega
    obtain ⟨k, hk⟩ : ∃ k : Nat, (0 - l - 1).toNat = k := ⟨_, rfl⟩
    have hlk : 0 - l - 1 = (k : Int) := by omega
    rw [hk]
    have e : IntKind.wrap .i64 (1 * 2 ^ min k 64) = ((2 ^ k : Nat) : Int) := shl_one (by omega)
    have c1 := Ctr.data1 (mono_ok hp hu (m := 2 ^ k) (two_pow_lt (by omega)))
    have c2 := Ctr.data1 (mono_ok hp hu (m := 0) h1)
    have c3 := Ctr.data1 (plus_ok hp hu (a := monoD u 0) (b := monoD u (2 ^ k)) (k := p - 1) (Vec.mono hp.1 u _) (Vec.mono hp.1 u _) (by omega))
    generalize addD p (p - 1) (monoD u 0) (monoD u (2 ^ k)) = r at *
    generalize monoD u (2 ^ k) = m1 at *
    generalize monoD u 0 = m0 at *
    generalize 2 ^ k = m at *
    refine Ctr.of (n := 25) (rs := [.tmp 4]) Try.func262 rfl rfl Try.ntmps262 rfl rfl (by kernel_rfl) Try.checked.mixed ?_
    simp (disch := first | omega | decide +kernel) only [hlk, e, go_sem, Nat.reduceEqDiff, Nat.reduceLT, Nat.reduceAdd, Nat.reduceMul, Nat.reduceSub, ↓reduceIte, reduceCtorEq, Nat.reduceLeDiff, Nat.reduceSubDiff, Nat.reduceBEq]
    (repeat' (first | (refine gsel_split (fun h => ?_) (fun h => ?_) <;> (have h' := h) <;> (try simp only [decide_eq_true_eq, decide_eq_false_iff_not, Bool.not_eq_true', Bool.not_eq_false', bne_iff_ne, ne_eq, beq_iff_eq, bne_eq_false_iff_eq, beq_eq_false_iff_ne, Int.ofNat_lt, Int.ofNat_le, Int.not_lt, Int.not_le, Decidable.not_not, Bool.and_eq_true, Bool.or_eq_true, Bool.or_eq_false_iff, gt_iff_lt, ge_iff_le] at h') <;> first | (exfalso; omega) | (simp (disch := first | omega | decide +kernel) only [h, hlk, e, D.ints, go_sem, Nat.reduceEqDiff, Nat.reduceLT, Nat.reduceAdd, Nat.reduceMul, Nat.reduceSub, ↓reduceIte, reduceCtorEq, Nat.reduceLeDiff, Nat.reduceSubDiff, Nat.reduceBEq] <;> clear h)) | ((first | refine callX_shared (c1) rfl (by decide) ?_ | refine callY_shared (c1) rfl ?_ | refine callX_shared (c2) rfl (by decide) ?_ | refine callY_shared (c2) rfl ?_ | refine callX_shared (c3) rfl (by decide) ?_ | refine callY_shared (c3) rfl ?_ | refine hE _ _ ret_ne ?_ | refine hE _ _ exit_ne ?_) <;> try simp (disch := first | omega | decide +kernel) only [hlk, e, D.ints, go_sem, Nat.reduceEqDiff, Nat.reduceLT, Nat.reduceAdd, Nat.reduceMul, Nat.reduceSub, ↓reduceIte, reduceCtorEq, Nat.reduceLeDiff, Nat.reduceSubDiff, Nat.reduceBEq]) | (refine hN _ ?_ ?_ Wk.kk) | (with_reducible refine And.intro ?_ ?_) | (with_reducible omega) | (exact ok_ints) | (exact cells_ints) | (exact no_mem) | (with_reducible exact plain_ints) | (refine le_maxLen ?_; omega) | (refine List.forall_mem_cons.2 ⟨?_, ?_⟩) | (simp only [go_sem, Nat.reduceAdd, Nat.reduceLT, List.mem_cons, List.not_mem_nil, forall_eq]; done)))
    all_goals (first | omega | exact ret_s1 [] rfl | trace_state)
set_option maxHeartbeats 4000000 in
theorem clauseR_ok {c : List Int} (hl : c.length ≤ 4294967296) (hc : ∀ l ∈ c, LitU u l) : Ctr Try.prog 218 [D.ring p u, .ints c] true (.d (.ints (clauseD p u c))) [] := by
  have h2 := pow_le6 hu
  have h1 : 0 < 2 ^ u := Nat.pow_pos (by decide)
  have c0 := Ctr.data1 (mono_ok hp hu (m := 0) h1)
  refine Ctr.of (n := 25) (rs := [.tmp 4]) Try.func218 rfl rfl Try.ntmps218 rfl rfl (by kernel_rfl) Try.checked.mixed ?_
  simp (disch := first | omega | decide +kernel) only [D.ints, go_sem, Nat.reduceEqDiff, Nat.reduceLT, Nat.reduceAdd, Nat.reduceMul, Nat.reduceSub, ↓reduceIte, reduceCtorEq, Nat.reduceLeDiff, Nat.reduceSubDiff, Nat.reduceBEq]
  (repeat' (first | (refine gsel_split (fun h => ?_) (fun h => ?_) <;> (have h' := h) <;> (try simp only [decide_eq_true_eq, decide_eq_false_iff_not, Bool.not_eq_true', Bool.not_eq_false', bne_iff_ne, ne_eq, beq_iff_eq, bne_eq_false_iff_eq, beq_eq_false_iff_ne, Int.ofNat_lt, Int.ofNat_le, Int.not_lt, Int.not_le, Decidable.not_not, Bool.and_eq_true, Bool.or_eq_true, Bool.or_eq_false_iff, gt_iff_lt, ge_iff_le] at h') <;> first | (exfalso; omega) | (simp (disch := first | omega | decide +kernel) only [h, D.ints, go_sem, Nat.reduceEqDiff, Nat.reduceLT, Nat.reduceAdd, Nat.reduceMul, Nat.reduceSub, ↓reduceIte, reduceCtorEq, Nat.reduceLeDiff, Nat.reduceSubDiff, Nat.reduceBEq] <;> clear h)) | ((first | refine callX_shared (c0) rfl (by decide) ?_ | refine callY_shared (c0) rfl ?_ | refine hE _ _ ret_ne ?_ | refine hE _ _ exit_ne ?_) <;> try simp (disch := first | omega | decide +kernel) only [D.ints, go_sem, Nat.reduceEqDiff, Nat.reduceLT, Nat.reduceAdd, Nat.reduceMul, Nat.reduceSub, ↓reduceIte, reduceCtorEq, Nat.reduceLeDiff, Nat.reduceSubDiff, Nat.reduceBEq]) | (refine hN _ ?_ ?_ Wk.kk) | (with_reducible refine And.intro ?_ ?_) | (with_reducible omega) | (exact ok_ints) | (exact cells_ints) | (exact no_mem) | (with_reducible exact plain_ints) | (refine le_maxLen ?_; omega) | (refine List.forall_mem_cons.2 ⟨?_, ?_⟩) | (simp only [go_sem, Nat.reduceAdd, Nat.reduceLT, List.mem_cons, List.not_mem_nil, forall_eq]; done)))
  refine Ok.loopN [23, 22, 21, 20, 19, 18, 17, 16, 15, 14, 13, 12, 9, 8, 7, 6, 5, 3, 1, 0] (fun i (v : List Int) => [(12, .d (.int .i64 (i : Nat))), (5, .d (.ints v))]) (fun _ _ => []) c.length
    (fun i v => v = (c.take i).foldl (fun v l => mulD p (2 ^ u) v (litD p u (0 - l))) (monoD u 0)) (monoD u 0) rfl (Wk.auto (by simp [extraK, lk, killL, St.kill, wipeO, wipeS, AV.has, AV.hasL, AO.wipe, List.map_set, updSt, insL, dropS, ins, D.ints]) (by simp [extraK, lk, killL, St.kill, wipeO, wipeS, AV.has, AV.hasL, AO.wipe, List.map_set, updSt, insL, dropS, ins, D.ints])) ?_
  rintro R i v hN hE hi hv
  by_cases hlt : i < c.length
  · have hvv : Vec p (2 ^ u) v := by rw [hv]; exact fold_vec (fun v l h => Vec.mulD (by omega) _ _ _) _ (Vec.mono hp.1 u 0)
    have hs : (c.take (i + 1)).foldl (fun v l => mulD p (2 ^ u) v (litD p u (0 - l))) (monoD u 0) = mulD p (2 ^ u) v (litD p u (0 - c.getD i 0)) := by
      rw [take_succ 0 c i hlt, List.foldl_append, ← hv]; rfl
    have hli := hc _ (getD_mem (z := (0 : Int)) hlt)
    have hli2 : LitU u (0 - c.getD i 0) := by unfold LitU at *; omega
    have hb : -100 ≤ c.getD i 0 ∧ c.getD i 0 ≤ 100 := by unfold LitU at hli; omega
    have c1 := literal_ok hp hu hli2
    have c2 := Ctr.data1 (times_ok hp hu hvv (Vec.lit hp.1 u (0 - c.getD i 0)))
    clear hv
    generalize mulD p (2 ^ u) v (litD p u (0 - c.getD i 0)) = w at *
    generalize litD p u (0 - c.getD i 0) = q at *
    simp (disch := first | omega | decide +kernel) only [D.ints, go_sem, Nat.reduceEqDiff, Nat.reduceLT, Nat.reduceAdd, Nat.reduceMul, Nat.reduceSub, ↓reduceIte, reduceCtorEq, Nat.reduceLeDiff, Nat.reduceSubDiff, Nat.reduceBEq]
    (repeat' (first | (refine gsel_split (fun h => ?_) (fun h => ?_) <;> (have h' := h) <;> (try simp only [decide_eq_true_eq, decide_eq_false_iff_not, Bool.not_eq_true', Bool.not_eq_false', bne_iff_ne, ne_eq, beq_iff_eq, bne_eq_false_iff_eq, beq_eq_false_iff_ne, Int.ofNat_lt, Int.ofNat_le, Int.not_lt, Int.not_le, Decidable.not_not, Bool.and_eq_true, Bool.or_eq_true, Bool.or_eq_false_iff, gt_iff_lt, ge_iff_le] at h') <;> first | (exfalso; omega) | (simp (disch := first | omega | decide +kernel) only [h, D.ints, go_sem, Nat.reduceEqDiff, Nat.reduceLT, Nat.reduceAdd, Nat.reduceMul, Nat.reduceSub, ↓reduceIte, reduceCtorEq, Nat.reduceLeDiff, Nat.reduceSubDiff, Nat.reduceBEq] <;> clear h)) | ((first | refine callX_shared (c1) rfl (by decide) ?_ | refine callY_shared (c1) rfl ?_ | refine callX_shared (c2) rfl (by decide) ?_ | refine callY_shared (c2) rfl ?_ | refine hE _ _ ret_ne ?_ | refine hE _ _ exit_ne ?_) <;> try simp (disch := first | omega | decide +kernel) only [D.ints, go_sem, Nat.reduceEqDiff, Nat.reduceLT, Nat.reduceAdd, Nat.reduceMul, Nat.reduceSub, ↓reduceIte, reduceCtorEq, Nat.reduceLeDiff, Nat.reduceSubDiff, Nat.reduceBEq]) | (refine hN _ ?_ ?_ Wk.kk) | (with_reducible refine And.intro ?_ ?_) | (with_reducible omega) | (exact ok_ints) | (exact cells_ints) | (exact no_mem) | (with_reducible exact plain_ints) | (refine le_maxLen ?_; omega) | (refine List.forall_mem_cons.2 ⟨?_, ?_⟩) | (simp only [go_sem, Nat.reduceAdd, Nat.reduceLT, List.mem_cons, List.not_mem_nil, forall_eq]; done)))
    all_goals (first | omega | (refine hN w _ hlt hs.symm (Wk.auto (by simp [extraK, lk, killL, St.kill, wipeO, wipeS, AV.has, AV.hasL, AO.wipe, List.map_set, updSt, insL, dropS, ins, D.ints]) (by simp [extraK, lk, killL, St.kill, wipeO, wipeS, AV.has, AV.hasL, AO.wipe, List.map_set, updSt, insL, dropS, ins, D.ints])); done) | trace_state)
  · obtain rfl : i = c.length := by omega
    rw [List.take_length] at hv
    have hv2 : v = clauseD p u c := hv
    rw [← hv2] at hE
    simp (disch := first | omega | decide +kernel) only [D.ints, go_sem, Nat.reduceEqDiff, Nat.reduceLT, Nat.reduceAdd, Nat.reduceMul, Nat.reduceSub, ↓reduceIte, reduceCtorEq, Nat.reduceLeDiff, Nat.reduceSubDiff, Nat.reduceBEq]
    (repeat' (first | (refine gsel_split (fun h => ?_) (fun h => ?_) <;> (have h' := h) <;> (try simp only [decide_eq_true_eq, decide_eq_false_iff_not, Bool.not_eq_true', Bool.not_eq_false', bne_iff_ne, ne_eq, beq_iff_eq, bne_eq_false_iff_eq, beq_eq_false_iff_ne, Int.ofNat_lt, Int.ofNat_le, Int.not_lt, Int.not_le, Decidable.not_not, Bool.and_eq_true, Bool.or_eq_true, Bool.or_eq_false_iff, gt_iff_lt, ge_iff_le] at h') <;> first | (exfalso; omega) | (simp (disch := first | omega | decide +kernel) only [h, D.ints, go_sem, Nat.reduceEqDiff, Nat.reduceLT, Nat.reduceAdd, Nat.reduceMul, Nat.reduceSub, ↓reduceIte, reduceCtorEq, Nat.reduceLeDiff, Nat.reduceSubDiff, Nat.reduceBEq] <;> clear h)) | ((first | refine hE _ _ ret_ne ?_ | refine hE _ _ exit_ne ?_) <;> try simp (disch := first | omega | decide +kernel) only [D.ints, go_sem, Nat.reduceEqDiff, Nat.reduceLT, Nat.reduceAdd, Nat.reduceMul, Nat.reduceSub, ↓reduceIte, reduceCtorEq, Nat.reduceLeDiff, Nat.reduceSubDiff, Nat.reduceBEq]) | (refine hN _ ?_ ?_ Wk.kk) | (with_reducible refine And.intro ?_ ?_) | (with_reducible omega) | (exact ok_ints) | (exact cells_ints) | (exact no_mem) | (with_reducible exact plain_ints) | (refine le_maxLen ?_; omega) | (refine List.forall_mem_cons.2 ⟨?_, ?_⟩) | (simp only [go_sem, Nat.reduceAdd, Nat.reduceLT, List.mem_cons, List.not_mem_nil, forall_eq]; done)))
    all_goals (first | omega | exact ret_s1 [] rfl | trace_state)
end
end Abs.Y
