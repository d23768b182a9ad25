/- What functions of this program compute, as contracts over plain data, with what the proofs need of them. No condition. -/
import Derived.Test.YtoppjihdipidiaaD7
import Derived.Test.YtoppjihdipidiaaC4
set_option linter.all false
namespace Abs.Y
open Go Go.Proofs Abs
open Nat (reduceEqDiff reduceLT reduceAdd reduceMul reduceSub reduceLeDiff reduceSubDiff)
set_option maxRecDepth 100000

section
variable {p : Int} {u : Nat} (hp : 1 < p ∧ p ≤ 5) (hu : u ≤ 6)
include hp hu
theorem l20TimesD_ok {v : List Int} {x : Int} (hv : Vec p (2 ^ u) v) (hx : 1 ≤ x ∧ x ≤ u) :
    Ctr Try.prog 132 [.int .i64 p, .int .i64 u, D.sp v, .int .i64 x] true (.d (D.sp (mulX p u v x))) [] := by
  obtain ⟨k, hk⟩ : ∃ k : Nat, (x - 1).toNat = k := ⟨_, rfl⟩
  have e : IntKind.wrap .i64 (1 * 2 ^ min k 64) = ((2 ^ k : Nat) : Int) := shl_one (by omega)
  have h2 := pow_le6 hu
  have hL := Vec.lit (p := p) hp.1 u x
  have hq : spT (litD p u x) = [(((2 ^ k : Nat) : Int), (1 : Int))] := by
    rw [litD, if_pos (by omega), hk]; exact sp_mono u (by omega) k (by omega)
  have hsv := Tms.len hv.1 h2
  have c2 := l18Mul_ok hp hu (a := spT v) (b := spT (litD p u x)) (by omega) (by have := Tms.len hL.1 h2; omega) (tms_sp hv) (tms_sp hL)
  rw [mul_eq (by omega), hq, show D.tms [(((2 ^ k : Nat) : Int), (1 : Int))] = D.slice [.agg [.int .i64 ((2 ^ k : Nat) : Int), .int .i64 1]] from rfl] at c2
  have hw2 : x - 1 = (k : Int) := by omega
  have hw3 : IntKind.i64.wrap (k : Int) = k := wrap_of (by omega)
  have hpk : 2 ^ k ≤ 64 := pow_le6 (by omega)
  refine Ctr.data1 (sh := false) (e := 124) (k := 2) ?_
  unfold mulX
  generalize mulD p (2 ^ u) v (litD p u x) = W at *
  generalize 2 ^ k = m at *
  refine Ctr.of (n := 18) (rs := [.tmp 8]) Try.func132 rfl rfl Try.ntmps132 rfl rfl (by kernel_rfl) Try.checked.mixed ?_
  simp (disch := first | omega | decide +kernel) only [hw2, hw3, Int.toNat_natCast, e, go_sem, reduceEqDiff, reduceLT, reduceAdd, reduceMul, reduceSub, ↓reduceIte, reduceCtorEq, reduceLeDiff, reduceSubDiff, Nat.reduceBEq]
  (repeat' (first | (refine gsel_split (fun h => ?_) (fun h => ?_) <;> (have h' := h) <;> (try simp only [decide_eq_true_eq, decide_eq_false_iff_not, Bool.not_eq_true', Bool.not_eq_false', bne_iff_ne, ne_eq, beq_iff_eq, bne_eq_false_iff_eq, beq_eq_false_iff_ne, Int.ofNat_lt, Int.ofNat_le, Int.not_lt, Int.not_le, Decidable.not_not, Bool.and_eq_true, Bool.or_eq_true, Bool.or_eq_false_iff, gt_iff_lt, ge_iff_le] at h') <;> first | (exfalso; omega) | (simp (disch := first | omega | decide +kernel) only [h, hw2, hw3, Int.toNat_natCast, e, go_sem, reduceEqDiff, reduceLT, reduceAdd, reduceMul, reduceSub, ↓reduceIte, reduceCtorEq, reduceLeDiff, reduceSubDiff, Nat.reduceBEq] <;> clear h)) | ((first | refine callX_new (c2) rfl (by decide) ?_ | refine callY_new (c2) rfl ?_ | refine hE _ _ ret_ne ?_ | refine hE _ _ exit_ne ?_) <;> try simp (disch := first | omega | decide +kernel) only [hw2, hw3, Int.toNat_natCast, e, go_sem, reduceEqDiff, reduceLT, reduceAdd, reduceMul, reduceSub, ↓reduceIte, reduceCtorEq, reduceLeDiff, reduceSubDiff, Nat.reduceBEq]) | (refine hN _ ?_ ?_ Wk.kk) | (with_reducible refine And.intro ?_ ?_) | (with_reducible omega) | (exact ok_ints) | (exact cells_ints) | (exact no_mem) | (with_reducible exact plain_ints) | (refine le_maxLen ?_; omega) | (refine List.forall_mem_cons.2 ⟨?_, ?_⟩) | (simp only [go_sem, Nat.reduceAdd, Nat.reduceLT, List.mem_cons, List.not_mem_nil, forall_eq]; done)))
  all_goals (first | omega | exact ret_sl 1800000 rfl rfl plain_tms | trace_state)
theorem l18DegreeD_ok {v : List Int} (hv : Vec p (2 ^ u) v) : Ctr Try.prog 60 [D.sp v] false (.d (.int .i64 (degD v))) [] := by
  have h2 := pow_le6 hu
  have c := l18Degree_ok (n := 2 ^ u) (p := p) h2 (a := spT v) (by have := Tms.len hv.1 h2; omega) (tms_sp hv)
  rwa [deg_eq] at c
theorem l20Has_ok {R : List (List Int)} (h : EchB p u R) {t : Bool} (ht : t = true ↔ Sp p (2 ^ u) R (monoD u 0)) : Ctr Try.prog 121 [.slice (R.map D.sp)] false (.d (.bool t)) [] := by
  have h2 := pow_le6 hu
  have hiff := one_first hp.1 hu h
  have hbd := (h.rows hu).bd
  have c1 : Ctr Try.prog 171 [] true (.d (D.slice [.agg [.int .i64 0, .int .i64 1]])) [] := by
    refine Ctr.data1 (sh := false) (e := 124) (k := 2) ?_
    refine Ctr.of (n := 3) (rs := [.tmp 0]) Try.func171 rfl rfl Try.ntmps171 rfl rfl (by kernel_rfl) Try.checked.mixed ?_
    simp (disch := first | omega | decide +kernel) only [go_sem, reduceEqDiff, reduceLT, reduceAdd, reduceMul, reduceSub, ↓reduceIte, reduceCtorEq, reduceLeDiff, reduceSubDiff, Nat.reduceBEq]
    (repeat' (first | (refine gsel_split (fun h => ?_) (fun h => ?_) <;> (have h' := h) <;> (try simp only [decide_eq_true_eq, decide_eq_false_iff_not, Bool.not_eq_true', Bool.not_eq_false', bne_iff_ne, ne_eq, beq_iff_eq, bne_eq_false_iff_eq, beq_eq_false_iff_ne, Int.ofNat_lt, Int.ofNat_le, Int.not_lt, Int.not_le, Decidable.not_not, Bool.and_eq_true, Bool.or_eq_true, Bool.or_eq_false_iff, gt_iff_lt, ge_iff_le] at h') <;> first | (exfalso; omega) | (simp (disch := first | omega | decide +kernel) only [h, go_sem, reduceEqDiff, reduceLT, reduceAdd, reduceMul, reduceSub, ↓reduceIte, reduceCtorEq, reduceLeDiff, reduceSubDiff, Nat.reduceBEq] <;> clear h)) | ((first | refine hE _ _ ret_ne ?_ | refine hE _ _ exit_ne ?_) <;> try simp (disch := first | omega | decide +kernel) only [go_sem, reduceEqDiff, reduceLT, reduceAdd, reduceMul, reduceSub, ↓reduceIte, reduceCtorEq, reduceLeDiff, reduceSubDiff, Nat.reduceBEq]) | (refine hN _ ?_ ?_ Wk.kk) | (with_reducible refine And.intro ?_ ?_) | (with_reducible omega) | (exact ok_ints) | (exact cells_ints) | (exact no_mem) | (with_reducible exact plain_ints) | (refine le_maxLen ?_; omega) | (refine List.forall_mem_cons.2 ⟨?_, ?_⟩) | (simp only [go_sem, Nat.reduceAdd, Nat.reduceLT, List.mem_cons, List.not_mem_nil, forall_eq]; done)))
    all_goals (first | omega | exact ret_sl 2 rfl rfl (by simp [D.plain, D.plainL]) | trace_state)
  by_cases h0 : 0 < R.length
  · have hei := el_sp h0
    have hrm : R.getD 0 [] ∈ R := getD_mem (z := ([] : List Int)) h0
    have hr := h.ech.vec _ hrm
    have hlr := Tms.len hr.1 h2
    have c2 := l20Same_ok (spT (R.getD 0 [])) [(0, 1)] (by omega) (by simp)
    rw [show D.tms [((0 : Int), (1 : Int))] = D.slice [.agg [.int .i64 0, .int .i64 1]] from rfl, show decide (spT (R.getD 0 []) = [(0, 1)]) = t from by
      have : (spT (R.getD 0 []) = [(0, 1)]) ↔ t = true := by rw [one_iff hu hr.1, ht, hiff]; exact ⟨fun h => ⟨h0, h⟩, fun h => h.2⟩
      cases t with
      | true => exact decide_eq_true (this.2 rfl)
      | false => exact decide_eq_false fun e => by cases this.1 e] at c2
    clear ht hiff
    refine Ctr.of (n := 13) (rs := [.tmp 2]) Try.func121 rfl rfl Try.ntmps121 rfl rfl (by kernel_rfl) Try.checked.mixed ?_
    simp (disch := first | omega | decide +kernel) only [hei, go_sem, reduceEqDiff, reduceLT, reduceAdd, reduceMul, reduceSub, ↓reduceIte, reduceCtorEq, reduceLeDiff, reduceSubDiff, Nat.reduceBEq]
    (repeat' (first | (refine gsel_split (fun h => ?_) (fun h => ?_) <;> (have h' := h) <;> (try simp only [decide_eq_true_eq, decide_eq_false_iff_not, Bool.not_eq_true', Bool.not_eq_false', bne_iff_ne, ne_eq, beq_iff_eq, bne_eq_false_iff_eq, beq_eq_false_iff_ne, Int.ofNat_lt, Int.ofNat_le, Int.not_lt, Int.not_le, Decidable.not_not, Bool.and_eq_true, Bool.or_eq_true, Bool.or_eq_false_iff, gt_iff_lt, ge_iff_le] at h') <;> first | (exfalso; omega) | (simp (disch := first | omega | decide +kernel) only [h, hei, go_sem, reduceEqDiff, reduceLT, reduceAdd, reduceMul, reduceSub, ↓reduceIte, reduceCtorEq, reduceLeDiff, reduceSubDiff, Nat.reduceBEq] <;> clear h)) | ((first | refine callX_shared (c1) rfl (by decide) ?_ | refine callY_shared (c1) rfl ?_ | refine callX_new (c2) rfl (by decide) ?_ | refine callY_new (c2) rfl ?_ | refine hE _ _ ret_ne ?_ | refine hE _ _ exit_ne ?_) <;> try simp (disch := first | omega | decide +kernel) only [hei, go_sem, reduceEqDiff, reduceLT, reduceAdd, reduceMul, reduceSub, ↓reduceIte, reduceCtorEq, reduceLeDiff, reduceSubDiff, Nat.reduceBEq]) | (refine hN _ ?_ ?_ Wk.kk) | (with_reducible refine And.intro ?_ ?_) | (with_reducible omega) | (exact ok_ints) | (exact cells_ints) | (exact no_mem) | (with_reducible exact plain_ints) | (refine le_maxLen ?_; omega) | (refine List.forall_mem_cons.2 ⟨?_, ?_⟩) | (simp only [go_sem, Nat.reduceAdd, Nat.reduceLT, List.mem_cons, List.not_mem_nil, forall_eq]; done)))
    all_goals (first | omega | trace_state)
  · have hd : t = false := by
      cases t with
      | true => exact absurd (hiff.1 (ht.1 rfl)).1 h0
      | false => rfl
    rw [hd]
    refine Ctr.of (n := 13) (rs := [.tmp 2]) Try.func121 rfl rfl Try.ntmps121 rfl rfl (by kernel_rfl) Try.checked.mixed ?_
    simp (disch := first | omega | decide +kernel) only [go_sem, reduceEqDiff, reduceLT, reduceAdd, reduceMul, reduceSub, ↓reduceIte, reduceCtorEq, reduceLeDiff, reduceSubDiff, Nat.reduceBEq]
    (repeat' (first | (refine gsel_split (fun h => ?_) (fun h => ?_) <;> (have h' := h) <;> (try simp only [decide_eq_true_eq, decide_eq_false_iff_not, Bool.not_eq_true', Bool.not_eq_false', bne_iff_ne, ne_eq, beq_iff_eq, bne_eq_false_iff_eq, beq_eq_false_iff_ne, Int.ofNat_lt, Int.ofNat_le, Int.not_lt, Int.not_le, Decidable.not_not, Bool.and_eq_true, Bool.or_eq_true, Bool.or_eq_false_iff, gt_iff_lt, ge_iff_le] at h') <;> first | (exfalso; omega) | (simp (disch := first | omega | decide +kernel) only [h, go_sem, reduceEqDiff, reduceLT, reduceAdd, reduceMul, reduceSub, ↓reduceIte, reduceCtorEq, reduceLeDiff, reduceSubDiff, Nat.reduceBEq] <;> clear h)) | ((first | refine callX_shared (c1) rfl (by decide) ?_ | refine callY_shared (c1) rfl ?_ | refine hE _ _ ret_ne ?_ | refine hE _ _ exit_ne ?_) <;> try simp (disch := first | omega | decide +kernel) only [go_sem, reduceEqDiff, reduceLT, reduceAdd, reduceMul, reduceSub, ↓reduceIte, reduceCtorEq, reduceLeDiff, reduceSubDiff, Nat.reduceBEq]) | (refine hN _ ?_ ?_ Wk.kk) | (with_reducible refine And.intro ?_ ?_) | (with_reducible omega) | (exact ok_ints) | (exact cells_ints) | (exact no_mem) | (with_reducible exact plain_ints) | (refine le_maxLen ?_; omega) | (refine List.forall_mem_cons.2 ⟨?_, ?_⟩) | (simp only [go_sem, Nat.reduceAdd, Nat.reduceLT, List.mem_cons, List.not_mem_nil, forall_eq]; done)))
    all_goals (first | omega | trace_state)
end
theorem clausesD_succ (p : Int) (u : Nat) (d : Int) (cs : List (List Int)) {i : Nat} (hi : i < cs.length) : clausesD p u d (cs.take (i + 1)) = clausesD p u d (cs.take i) ++ (if ((cs.getD i []).length : Int) ≤ d then [clauseD p u (cs.getD i [])] else []) := by
  unfold clausesD
  rw [take_succ [] cs i hi, List.filter_append, List.map_append]
  congr 1
  by_cases h : ((cs.getD i []).length : Int) ≤ d
  · rw [if_pos h, List.filter_cons_of_pos (by simpa using h)]; rfl
  · rw [if_neg h, List.filter_cons_of_neg (by simpa using h)]; rfl
theorem prods_succ (p : Int) (u : Nat) (d : Int) (R : List (List Int)) {i : Nat} (hi : i < R.length) : prods p u d (R.take (i + 1)) = prods p u d (R.take i) ++ prodsR p u d (R.getD i []) := by
  unfold prods
  rw [take_succ [] R i hi, List.flatMap_append]; simp
def prodsK (p : Int) (u : Nat) (r : List Int) (j : Nat) : List (List Int) := (List.range j).map (fun v => mulX p u r ((v : Nat) + 1 : Int))
theorem prodsK_succ (p : Int) (u : Nat) (r : List Int) (j : Nat) : prodsK p u r (j + 1) = prodsK p u r j ++ [mulX p u r ((j : Int) + 1)] := by
  unfold prodsK; rw [List.range_succ, List.map_append]; rfl
theorem prodsK_all {p : Int} {u : Nat} {d : Int} {r : List Int} (h : degD r < d) : prodsK p u r u = prodsR p u d r := by
  unfold prodsK prodsR; rw [if_pos h]
section
variable {p : Int} {u : Nat} (hp : p = 2 ∨ p = 3 ∨ p = 5) (hu : u ≤ 6)
def basR (cs : List (List Int)) (d : Int) : List (List Int) := (keepR p u hp hu).fin cs d []
end
end Abs.Y
