/- What functions of this program compute, as contracts over plain data, with what the proofs need of them. No condition. -/
import Derived.Test.YtoppjihdipidiaaV6
set_option linter.all false
namespace Abs.Y
open Go Go.Proofs Abs
open Nat (reduceEqDiff reduceLT reduceAdd reduceMul reduceSub reduceLeDiff reduceSubDiff)
set_option maxRecDepth 100000

theorem isT_elem {p : Int} {n : Nat} {a : List (Int × Int)} (h : isT p n a = true) {i : Nat} (hi : i < a.length) :
    0 ≤ (a.getD i (0, 0)).1 ∧ (a.getD i (0, 0)).1 < n ∧ 1 ≤ (a.getD i (0, 0)).2 ∧ (a.getD i (0, 0)).2 < p ∧ (i = 0 ∨ (a.getD (i - 1) (0, 0)).1 < (a.getD i (0, 0)).1) := by
  have := List.all_eq_true.1 h i (List.mem_range.2 hi)
  simp only [okTm, Bool.and_eq_true, Bool.or_eq_true, decide_eq_true_eq] at this
  omega
theorem isT_lt {p : Int} {n : Nat} {a : List (Int × Int)} (h : isT p n a = true) : ∀ j, j < a.length → ∀ i, i < j → (a.getD i (0, 0)).1 < (a.getD j (0, 0)).1
  | 0, _, i, hi => by omega
  | j + 1, hj, i, hi => by
    have h1 := isT_elem h hj
    rw [Nat.add_sub_cancel] at h1
    by_cases e : i = j
    · subst e; omega
    · have := isT_lt h j (by omega) i (by omega)
      omega
theorem isT_tms {p : Int} {n : Nat} {a : List (Int × Int)} (h : isT p n a = true) : Tms p n a := fun t ht => by
  obtain ⟨i, hi, rfl⟩ := mem_getD (0, 0) ht
  have := isT_elem h hi
  omega
theorem fold_get : ∀ (a : List (Int × Int)) (w : List Int) (k : Nat), k < w.length →
    (∃ t ∈ a, t.1.toNat = k ∧ (a.foldl (fun v t => v.set t.1.toNat t.2) w).getD k 0 = t.2) ∨ ((∀ t ∈ a, t.1.toNat ≠ k) ∧ (a.foldl (fun v t => v.set t.1.toNat t.2) w).getD k 0 = w.getD k 0)
  | [], w, k, _ => .inr ⟨by simp, rfl⟩
  | t :: r, w, k, hk => by
    rcases fold_get r (w.set t.1.toNat t.2) k (by simpa using hk) with ⟨s, hs, h1, h2⟩ | ⟨h1, h2⟩
    · exact .inl ⟨s, List.mem_cons_of_mem _ hs, h1, h2⟩
    · rw [getD_set] at h2
      by_cases e : t.1.toNat = k
      · rw [if_pos ⟨e, hk⟩] at h2
        exact .inl ⟨t, by simp, e, h2⟩
      · rw [if_neg (fun h => e h.1)] at h2
        refine .inr ⟨fun s hs => ?_, h2⟩
        rcases List.mem_cons.1 hs with rfl | hs
        · exact e
        · exact h1 s hs
theorem getD_zero (n k : Nat) : (List.replicate n (0 : Int)).getD k 0 = 0 := by
  rw [List.getD_eq_getElem?_getD, List.getElem?_replicate]; split <;> rfl
section
variable {p : Int} {u : Nat} (hp : 1 < p ∧ p ≤ 5) (hu : u ≤ 6)
include hp hu
set_option maxHeartbeats 4000000 in
theorem dense_ok {a : List (Int × Int)} (hl : a.length ≤ 4294967296) (hT : isT p (2 ^ u) a = true) : Ctr Try.prog 65 [D.ring p u, D.tms a] false (.sl 0) [(0, .arr 3 1 ((dnT (2 ^ u) a).map (.int .i64)))] := by
  have h2 := pow_le6 hu
  have hp0 : ¬ p = 0 := by omega
  have c1 := zero_ok hp hu
  generalize hG : dnT (2 ^ u) a = G
  generalize 2 ^ u = n at *
  refine Ctr.of (n := 33) (rs := [.tmp 4]) Try.func65 rfl rfl Try.ntmps65 rfl rfl (by kernel_rfl) Try.checked.mixed ?_
  simp (disch := first | omega | decide +kernel) only [go_sem, reduceEqDiff, reduceLT, reduceAdd, reduceMul, reduceSub, ↓reduceIte, reduceCtorEq, reduceLeDiff, reduceSubDiff, Nat.reduceBEq]
  (repeat' (first | (refine gsel_split (fun h => ?_) (fun h => ?_) <;> (have h' := h) <;> (try simp only [decide_eq_true_eq, decide_eq_false_iff_not, Bool.not_eq_true', Bool.not_eq_false', bne_iff_ne, ne_eq, beq_iff_eq, bne_eq_false_iff_eq, beq_eq_false_iff_ne, Int.ofNat_lt, Int.ofNat_le, Int.not_lt, Int.not_le, Decidable.not_not, Bool.and_eq_true, Bool.or_eq_true, Bool.or_eq_false_iff, gt_iff_lt, ge_iff_le] at h') <;> first | (exfalso; omega) | (simp (disch := first | omega | decide +kernel) only [h, go_sem, reduceEqDiff, reduceLT, reduceAdd, reduceMul, reduceSub, ↓reduceIte, reduceCtorEq, reduceLeDiff, reduceSubDiff, Nat.reduceBEq] <;> clear h)) | ((first | refine callX_new (c1) rfl (by decide) ?_ | refine callY_new (c1) rfl ?_ | refine hE _ _ ret_ne ?_ | refine hE _ _ exit_ne ?_) <;> try simp (disch := first | omega | decide +kernel) only [go_sem, reduceEqDiff, reduceLT, reduceAdd, reduceMul, reduceSub, ↓reduceIte, reduceCtorEq, reduceLeDiff, reduceSubDiff, Nat.reduceBEq]) | (refine hN _ ?_ ?_ Wk.kk) | (with_reducible refine And.intro ?_ ?_) | (with_reducible omega) | (exact ok_ints) | (exact cells_ints) | (exact no_mem) | (with_reducible exact plain_ints) | (refine le_maxLen ?_; omega) | (refine List.forall_mem_cons.2 ⟨?_, ?_⟩) | (simp only [go_sem, Nat.reduceAdd, Nat.reduceLT, List.mem_cons, List.not_mem_nil, forall_eq]; done)))
  refine Ok.loopN [31, 30, 29, 28, 27, 26, 25, 24, 23, 22, 21, 20, 19, 18, 17, 16, 15, 14, 13, 12, 9, 8, 7, 6, 3, 1, 0] (fun i _ => [(12, .d (.int .i64 (i : Nat)))]) (fun _ (v : List Int) => [(1000000, .arr 3 1 (List.map (D.int .i64) v))]) a.length
    (fun i v => v = (a.take i).foldl (fun v t => v.set t.1.toNat t.2) (List.replicate n 0) ∧ v.length = n) (List.replicate n 0) ⟨rfl, by simp⟩ (Wk.kk) ?_
  rintro R i v hN hE hi ⟨hv, hvl⟩
  by_cases hlt : i < a.length
  · have ht := isT_elem hT hlt
    have hs : (a.take (i + 1)).foldl (fun v t => v.set t.1.toNat t.2) (List.replicate n 0) = v.set (a.getD i (0, 0)).1.toNat (a.getD i (0, 0)).2 := by
      rw [take_succ (0, 0) a i hlt, List.foldl_append, ← hv]; rfl
    have hz : v.getD (a.getD i (0, 0)).1.toNat 0 = 0 := by
      have hk : (a.getD i (0, 0)).1.toNat < n := by omega
      rcases fold_get (a.take i) (List.replicate n 0) (a.getD i (0, 0)).1.toNat (by rw [List.length_replicate]; exact hk) with ⟨t, htm, e1, e2⟩ | ⟨_, e2⟩
      · obtain ⟨j, hj, rfl⟩ := mem_getD (0, 0) htm
        rw [List.length_take] at hj
        have hj2 : (a.take i).getD j (0, 0) = a.getD j (0, 0) := by
          rw [List.getD_eq_getElem?_getD, List.getElem?_take, if_pos (by omega), ← List.getD_eq_getElem?_getD]
        rw [hj2] at e1
        have := isT_lt hT i hlt j (by omega)
        have := isT_elem hT (i := j) (by omega)
        omega
      · rw [hv, e2, getD_zero]
    have hes := el_tm hlt
    clear hv
    generalize a.getD i (0, 0) = t at *
    have em : Int.tmod (0 + t.2) p = t.2 := by rw [Int.zero_add, Int.tmod_eq_emod_of_nonneg (by omega), Int.emod_eq_of_lt (by omega) (by omega)]
    have em2 : Int.tmod t.2 p = t.2 := by rw [Int.tmod_eq_emod_of_nonneg (by omega), Int.emod_eq_of_lt (by omega) (by omega)]
    simp (disch := first | omega | decide +kernel) only [hes, hz, em, Int.zero_add, em2, go_sem, reduceEqDiff, reduceLT, reduceAdd, reduceMul, reduceSub, ↓reduceIte, reduceCtorEq, reduceLeDiff, reduceSubDiff, Nat.reduceBEq]
    (repeat' (first | (refine gsel_split (fun h => ?_) (fun h => ?_) <;> (have h' := h) <;> (try simp only [decide_eq_true_eq, decide_eq_false_iff_not, Bool.not_eq_true', Bool.not_eq_false', bne_iff_ne, ne_eq, beq_iff_eq, bne_eq_false_iff_eq, beq_eq_false_iff_ne, Int.ofNat_lt, Int.ofNat_le, Int.not_lt, Int.not_le, Decidable.not_not, Bool.and_eq_true, Bool.or_eq_true, Bool.or_eq_false_iff, gt_iff_lt, ge_iff_le] at h') <;> first | (exfalso; omega) | (simp (disch := first | omega | decide +kernel) only [h, hes, hz, em, Int.zero_add, em2, go_sem, reduceEqDiff, reduceLT, reduceAdd, reduceMul, reduceSub, ↓reduceIte, reduceCtorEq, reduceLeDiff, reduceSubDiff, Nat.reduceBEq] <;> clear h)) | ((first | refine hE _ _ ret_ne ?_ | refine hE _ _ exit_ne ?_) <;> try simp (disch := first | omega | decide +kernel) only [hes, hz, em, Int.zero_add, em2, go_sem, reduceEqDiff, reduceLT, reduceAdd, reduceMul, reduceSub, ↓reduceIte, reduceCtorEq, reduceLeDiff, reduceSubDiff, Nat.reduceBEq]) | (refine hN _ ?_ ?_ Wk.kk) | (with_reducible refine And.intro ?_ ?_) | (with_reducible omega) | (exact ok_ints) | (exact cells_ints) | (exact no_mem) | (with_reducible exact plain_ints) | (refine le_maxLen ?_; omega) | (refine List.forall_mem_cons.2 ⟨?_, ?_⟩) | (simp only [go_sem, Nat.reduceAdd, Nat.reduceLT, List.mem_cons, List.not_mem_nil, forall_eq]; done)))
    all_goals (first | omega | (refine hN (v.set t.1.toNat t.2) _ hlt ⟨hs.symm, by simp [hvl]⟩ (by refine Wk.auto ?_ ?_ <;> simp [extraK, lk, killL, St.kill, wipeO, wipeS, AV.has, AV.hasL, AO.wipe, List.map_set, updSt, insL, dropS, ins, ]); done))
  · obtain rfl : i = a.length := by omega
    rw [List.take_length] at hv
    have hv2 : v = G := by rw [hv, ← hG]; rfl
    subst hv2
    clear hv
    simp (disch := first | omega | decide +kernel) only [go_sem, reduceEqDiff, reduceLT, reduceAdd, reduceMul, reduceSub, ↓reduceIte, reduceCtorEq, reduceLeDiff, reduceSubDiff, Nat.reduceBEq]
    (repeat' (first | (refine gsel_split (fun h => ?_) (fun h => ?_) <;> (have h' := h) <;> (try simp only [decide_eq_true_eq, decide_eq_false_iff_not, Bool.not_eq_true', Bool.not_eq_false', bne_iff_ne, ne_eq, beq_iff_eq, bne_eq_false_iff_eq, beq_eq_false_iff_ne, Int.ofNat_lt, Int.ofNat_le, Int.not_lt, Int.not_le, Decidable.not_not, Bool.and_eq_true, Bool.or_eq_true, Bool.or_eq_false_iff, gt_iff_lt, ge_iff_le] at h') <;> first | (exfalso; omega) | (simp (disch := first | omega | decide +kernel) only [h, go_sem, reduceEqDiff, reduceLT, reduceAdd, reduceMul, reduceSub, ↓reduceIte, reduceCtorEq, reduceLeDiff, reduceSubDiff, Nat.reduceBEq] <;> clear h)) | ((first | refine hE _ _ ret_ne ?_ | refine hE _ _ exit_ne ?_) <;> try simp (disch := first | omega | decide +kernel) only [go_sem, reduceEqDiff, reduceLT, reduceAdd, reduceMul, reduceSub, ↓reduceIte, reduceCtorEq, reduceLeDiff, reduceSubDiff, Nat.reduceBEq]) | (refine hN _ ?_ ?_ Wk.kk) | (with_reducible refine And.intro ?_ ?_) | (with_reducible omega) | (exact ok_ints) | (exact cells_ints) | (exact no_mem) | (with_reducible exact plain_ints) | (refine le_maxLen ?_; omega) | (refine List.forall_mem_cons.2 ⟨?_, ?_⟩) | (simp only [go_sem, Nat.reduceAdd, Nat.reduceLT, List.mem_cons, List.not_mem_nil, forall_eq]; done)))
    all_goals (first | omega | exact ret_sl 1000000 rfl rfl plain_ints)
end
end Abs.Y
