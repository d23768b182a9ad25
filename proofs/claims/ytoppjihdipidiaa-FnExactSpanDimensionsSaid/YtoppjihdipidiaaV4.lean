/- What functions of this program compute, as contracts over plain data, with what the proofs need of them. No condition. -/
import Derived.Test.YtoppjihdipidiaaV3
set_option linter.all false
namespace Abs.Y
open Go Go.Proofs Abs
open Nat (reduceEqDiff reduceLT reduceAdd reduceMul reduceSub reduceLeDiff reduceSubDiff)
set_option maxRecDepth 100000

theorem sp_mono : ∀ u, u < 7 → ∀ k, k < u → spT (monoD u (2 ^ k)) = [(((2 ^ k : Nat) : Int), (1 : Int))] := by decide +kernel
theorem sp_one : ∀ u, u < 7 → spT (monoD u 0) = [(0, 1)] := by decide +kernel
theorem sp_neg0 : ∀ q, q < 4 → ∀ u, u < 7 → ∀ k, k < u → spT (addD ((q + 2 : Nat) : Int) ((q + 1 : Nat) : Int) (monoD u 0) (monoD u (2 ^ k))) = [((0 : Int), (1 : Int)), (((2 ^ k : Nat) : Int), ((q + 1 : Nat) : Int))] := by decide +kernel
theorem sp_neg {p : Int} (hp : 1 < p ∧ p ≤ 5) {u k : Nat} (hu : u ≤ 6) (hk : k < u) : spT (addD p (p - 1) (monoD u 0) (monoD u (2 ^ k))) = [((0 : Int), (1 : Int)), (((2 ^ k : Nat) : Int), p - 1)] := by
  have h := sp_neg0 (p - 2).toNat (by omega) u (by omega) k hk
  have e1 : (((p - 2).toNat + 2 : Nat) : Int) = p := by omega
  have e2 : (((p - 2).toNat + 1 : Nat) : Int) = p - 1 := by omega
  rw [e1, e2] at h
  exact h
theorem Tms.len {v : List Int} {n : Nat} (h : v.length = n) (hn : n ≤ 64) : (spT v).length ≤ 64 := by
  have := sp_len v
  omega
theorem mem_tms {p : Int} {n : Nat} {a : List (Int × Int)} (h : Tms p n a) {i : Nat} (hi : i < a.length) : ∃ k : Nat, k < n ∧ (a.getD i (0, 0)).1 = k ∧ 0 ≤ (a.getD i (0, 0)).2 ∧ (a.getD i (0, 0)).2 < p := by
  have ht := h _ (getD_mem (z := ((0, 0) : Int × Int)) hi)
  exact ⟨(a.getD i (0, 0)).1.toNat, by omega, by omega, ht.2⟩
section
variable {p : Int} {u : Nat} (hp : 1 < p ∧ p ≤ 5) (hu : u ≤ 6)
include hp hu
set_option maxHeartbeats 4000000 in
theorem l18Mul_ok {a b : List (Int × Int)} (hal : a.length ≤ 4294967296) (hbl : b.length ≤ 4294967296) (ha : Tms p (2 ^ u) a) (hb : Tms p (2 ^ u) b) :
    Ctr Try.prog 95 [.int .i64 p, .int .i64 u, D.tms a, D.tms b] false (.sl 0) [(0, .arr 124 2 ((spT (mulS p (2 ^ u) a b)).map D.tm))] := by
  have h2 := pow_le6 hu
  have hp0 : ¬ p = 0 := by omega
  have e : IntKind.wrap .i64 (1 * 2 ^ min u 64) = ((2 ^ u : Nat) : Int) := shl_one (by omega)
  have er : List.replicate (2 ^ u) (D.int .i64 0) = (List.replicate (2 ^ u) (0 : Int)).map (D.int .i64) := by simp
  have hvM := Vec.mulS (p := p) (by omega) (2 ^ u) a b
  have c1 := l18Sparse_ok hp hu (v := mulS p (2 ^ u) a b) (by have := hvM.1; omega) (fun i => by have := hvM.2 i; omega)
  rw [mod_vec hvM] at c1
  have hor0 : ∀ k m, k < 2 ^ u → m < 2 ^ u → k ||| m < 2 ^ u := fun k m h1 h2 => or_lt_pow h1 h2
  generalize hG : spT (mulS p (2 ^ u) a b) = G at *
  generalize 2 ^ u = n at *
  refine Ctr.of (n := 63) (rs := [.tmp 8]) Try.func95 rfl rfl Try.ntmps95 rfl rfl (by kernel_rfl) Try.checked.mixed ?_
  simp (disch := first | omega | decide +kernel) only [e, go_sem, reduceEqDiff, reduceLT, reduceAdd, reduceMul, reduceSub, ↓reduceIte, reduceCtorEq, reduceLeDiff, reduceSubDiff, Nat.reduceBEq]
  (repeat' (first | (refine gsel_split (fun h => ?_) (fun h => ?_) <;> (have h' := h) <;> (try simp only [decide_eq_true_eq, decide_eq_false_iff_not, Bool.not_eq_true', Bool.not_eq_false', bne_iff_ne, ne_eq, beq_iff_eq, bne_eq_false_iff_eq, beq_eq_false_iff_ne, Int.ofNat_lt, Int.ofNat_le, Int.not_lt, Int.not_le, Decidable.not_not, Bool.and_eq_true, Bool.or_eq_true, Bool.or_eq_false_iff, gt_iff_lt, ge_iff_le] at h') <;> first | (exfalso; omega) | (simp (disch := first | omega | decide +kernel) only [h, e, go_sem, reduceEqDiff, reduceLT, reduceAdd, reduceMul, reduceSub, ↓reduceIte, reduceCtorEq, reduceLeDiff, reduceSubDiff, Nat.reduceBEq] <;> clear h)) | ((first | refine hE _ _ ret_ne ?_ | refine hE _ _ exit_ne ?_) <;> try simp (disch := first | omega | decide +kernel) only [e, go_sem, reduceEqDiff, reduceLT, reduceAdd, reduceMul, reduceSub, ↓reduceIte, reduceCtorEq, reduceLeDiff, reduceSubDiff, Nat.reduceBEq]) | (refine hN _ ?_ ?_ Wk.kk) | (with_reducible refine And.intro ?_ ?_) | (with_reducible omega) | (exact ok_ints) | (exact cells_ints) | (exact no_mem) | (with_reducible exact plain_ints) | (refine le_maxLen ?_; omega) | (refine List.forall_mem_cons.2 ⟨?_, ?_⟩) | (simp only [go_sem, Nat.reduceAdd, Nat.reduceLT, List.mem_cons, List.not_mem_nil, forall_eq]; done)))
  all_goals (first | omega | skip)
  rw [er]
  refine Ok.loopN [59, 58, 57, 56, 55, 54, 53, 52, 51, 50, 49, 48, 47, 46, 45, 44, 43, 42, 41, 40, 39, 38, 37, 36, 35, 34, 33, 32, 31, 30, 29, 28, 27, 26, 25, 24, 23, 22, 21, 20, 19, 18, 17, 16, 15, 14, 13, 12, 11, 10, 7, 6, 5, 4, 1] (fun i _ => [(10, .d (.int .i64 (i : Nat)))]) (fun _ (v : List Int) => [(15, .arr 3 1 (List.map (D.int .i64) v))]) a.length
    (fun i v => v = (a.take i).foldl (fun v (s : Int × Int) => rowS p b s.1.toNat s.2 v) (List.replicate (n) 0)) (List.replicate (n) 0) rfl (Wk.kk) ?_
  rintro R i v hN0 hE0 hi hv
  by_cases hlt : i < a.length
  · have hvv : Vec p (n) v := by rw [hv]; exact fold_vec (fun v s h => h.rowS (by omega) b _ _) _ (Vec.zero (by omega) _)
    have hsucc : (a.take (i + 1)).foldl (fun v (s : Int × Int) => rowS p b s.1.toNat s.2 v) (List.replicate (n) 0) = rowS p b (a.getD i (0, 0)).1.toNat (a.getD i (0, 0)).2 v := by
      rw [take_succ (0, 0) a i hlt, List.foldl_append, ← hv]; rfl
    obtain ⟨k, hk, hk1, hc⟩ := mem_tms ha hlt
    have hea := el_tm hlt
    rw [hk1] at hea hsucc
    rw [Int.toNat_natCast] at hsucc
    generalize (a.getD i (0, 0)).2 = c at *
    clear hv c1 hG
    simp (disch := first | omega | decide +kernel) only [go_sem, reduceEqDiff, reduceLT, reduceAdd, reduceMul, reduceSub, ↓reduceIte, reduceCtorEq, reduceLeDiff, reduceSubDiff, Nat.reduceBEq]
    (repeat' (first | (refine gsel_split (fun h => ?_) (fun h => ?_) <;> (have h' := h) <;> (try simp only [decide_eq_true_eq, decide_eq_false_iff_not, Bool.not_eq_true', Bool.not_eq_false', bne_iff_ne, ne_eq, beq_iff_eq, bne_eq_false_iff_eq, beq_eq_false_iff_ne, Int.ofNat_lt, Int.ofNat_le, Int.not_lt, Int.not_le, Decidable.not_not, Bool.and_eq_true, Bool.or_eq_true, Bool.or_eq_false_iff, gt_iff_lt, ge_iff_le] at h') <;> first | (exfalso; omega) | (simp (disch := first | omega | decide +kernel) only [h, go_sem, reduceEqDiff, reduceLT, reduceAdd, reduceMul, reduceSub, ↓reduceIte, reduceCtorEq, reduceLeDiff, reduceSubDiff, Nat.reduceBEq] <;> clear h)) | ((first | refine hE _ _ ret_ne ?_ | refine hE _ _ exit_ne ?_) <;> try simp (disch := first | omega | decide +kernel) only [go_sem, reduceEqDiff, reduceLT, reduceAdd, reduceMul, reduceSub, ↓reduceIte, reduceCtorEq, reduceLeDiff, reduceSubDiff, Nat.reduceBEq]) | (refine hN _ ?_ ?_ Wk.kk) | (with_reducible refine And.intro ?_ ?_) | (with_reducible omega) | (exact ok_ints) | (exact cells_ints) | (exact no_mem) | (with_reducible exact plain_ints) | (refine le_maxLen ?_; omega) | (refine List.forall_mem_cons.2 ⟨?_, ?_⟩) | (simp only [go_sem, Nat.reduceAdd, Nat.reduceLT, List.mem_cons, List.not_mem_nil, forall_eq]; done)))
    refine Ok.loopN [59, 58, 57, 56, 55, 54, 53, 52, 51, 50, 49, 48, 47, 46, 45, 44, 43, 42, 41, 40, 39, 38, 37, 36, 35, 34, 33, 32, 31, 30, 29, 28, 27, 26, 25, 24, 23, 22, 15, 14, 13, 12, 11, 7, 6, 5, 4, 1] (fun j _ => [(11, .d (.int .i64 (j : Nat)))]) (fun _ (w : List Int) => [(15, .arr 3 1 (List.map (D.int .i64) w))]) b.length
      (fun j w => w = rowS p (b.take j) k c v) v rfl (Wk.kk) ?_
    rintro R2 j w hN hE hj hw
    by_cases hjt : j < b.length
    · have hwv : Vec p (n) w := by rw [hw]; exact hvv.rowS (by omega) _ _ _
      obtain ⟨m, hm, hm1, hd⟩ := mem_tms hb hjt
      have heb := el_tm hjt
      have hs2 : rowS p (b.take (j + 1)) k c v = w.set (k ||| m) ((w.getD (k ||| m) 0 + c * (b.getD j (0, 0)).2) % p) := by
        unfold rowS
        rw [take_succ (0, 0) b j hjt, List.foldl_append]
        unfold rowS at hw
        rw [← hw]
        simp only [List.foldl_cons, List.foldl_nil, stP, hm1, Int.toNat_natCast]
      rw [hm1] at heb
      generalize (b.getD j (0, 0)).2 = d at *
      have hor := hor0 k m hk hm
      have eo := bitV_or (a := k) (b := m) (by omega) (by omega)
      have hwk := hwv.2 (k ||| m)
      have hwl := hwv.1
      clear hw
      generalize k ||| m = o at *
      have hcd : 0 ≤ c * d ∧ c * d ≤ 25 := ⟨Int.mul_nonneg hc.1 hd.1, Int.le_trans (Int.mul_le_mul (show c ≤ 5 by omega) (show d ≤ 5 by omega) hd.1 (by decide)) (by decide)⟩
      have em : (w.getD o 0 + c * d).tmod p = (w.getD o 0 + c * d) % p := Int.tmod_eq_emod_of_nonneg (by omega)
      simp (disch := first | omega | decide +kernel) only [hea, heb, eo, em, go_sem, reduceEqDiff, reduceLT, reduceAdd, reduceMul, reduceSub, ↓reduceIte, reduceCtorEq, reduceLeDiff, reduceSubDiff, Nat.reduceBEq]
      (repeat' (first | (refine gsel_split (fun h => ?_) (fun h => ?_) <;> (have h' := h) <;> (try simp only [decide_eq_true_eq, decide_eq_false_iff_not, Bool.not_eq_true', Bool.not_eq_false', bne_iff_ne, ne_eq, beq_iff_eq, bne_eq_false_iff_eq, beq_eq_false_iff_ne, Int.ofNat_lt, Int.ofNat_le, Int.not_lt, Int.not_le, Decidable.not_not, Bool.and_eq_true, Bool.or_eq_true, Bool.or_eq_false_iff, gt_iff_lt, ge_iff_le] at h') <;> first | (exfalso; omega) | (simp (disch := first | omega | decide +kernel) only [h, hea, heb, eo, em, go_sem, reduceEqDiff, reduceLT, reduceAdd, reduceMul, reduceSub, ↓reduceIte, reduceCtorEq, reduceLeDiff, reduceSubDiff, Nat.reduceBEq] <;> clear h)) | ((first | refine hE _ _ ret_ne ?_ | refine hE _ _ exit_ne ?_) <;> try simp (disch := first | omega | decide +kernel) only [hea, heb, eo, em, go_sem, reduceEqDiff, reduceLT, reduceAdd, reduceMul, reduceSub, ↓reduceIte, reduceCtorEq, reduceLeDiff, reduceSubDiff, Nat.reduceBEq]) | (refine hN _ ?_ ?_ Wk.kk) | (with_reducible refine And.intro ?_ ?_) | (with_reducible omega) | (exact ok_ints) | (exact cells_ints) | (exact no_mem) | (with_reducible exact plain_ints) | (refine le_maxLen ?_; omega) | (refine List.forall_mem_cons.2 ⟨?_, ?_⟩) | (simp only [go_sem, Nat.reduceAdd, Nat.reduceLT, List.mem_cons, List.not_mem_nil, forall_eq]; done)))
      all_goals (first | omega | (refine hN (w.set o ((w.getD o 0 + c * d) % p)) _ hjt hs2.symm (by refine Wk.auto ?_ ?_ <;> simp [extraK, lk, killL, St.kill, wipeO, wipeS, AV.has, AV.hasL, AO.wipe, List.map_set, updSt, insL, dropS, ins, ]); done))
    · obtain rfl : j = b.length := by omega
      rw [List.take_length] at hw
      simp (disch := first | omega | decide +kernel) only [go_sem, reduceEqDiff, reduceLT, reduceAdd, reduceMul, reduceSub, ↓reduceIte, reduceCtorEq, reduceLeDiff, reduceSubDiff, Nat.reduceBEq]
      (repeat' (first | (refine gsel_split (fun h => ?_) (fun h => ?_) <;> (have h' := h) <;> (try simp only [decide_eq_true_eq, decide_eq_false_iff_not, Bool.not_eq_true', Bool.not_eq_false', bne_iff_ne, ne_eq, beq_iff_eq, bne_eq_false_iff_eq, beq_eq_false_iff_ne, Int.ofNat_lt, Int.ofNat_le, Int.not_lt, Int.not_le, Decidable.not_not, Bool.and_eq_true, Bool.or_eq_true, Bool.or_eq_false_iff, gt_iff_lt, ge_iff_le] at h') <;> first | (exfalso; omega) | (simp (disch := first | omega | decide +kernel) only [h, go_sem, reduceEqDiff, reduceLT, reduceAdd, reduceMul, reduceSub, ↓reduceIte, reduceCtorEq, reduceLeDiff, reduceSubDiff, Nat.reduceBEq] <;> clear h)) | ((first | refine hE _ _ ret_ne ?_ | refine hE _ _ exit_ne ?_) <;> try simp (disch := first | omega | decide +kernel) only [go_sem, reduceEqDiff, reduceLT, reduceAdd, reduceMul, reduceSub, ↓reduceIte, reduceCtorEq, reduceLeDiff, reduceSubDiff, Nat.reduceBEq]) | (refine hN _ ?_ ?_ Wk.kk) | (with_reducible refine And.intro ?_ ?_) | (with_reducible omega) | (exact ok_ints) | (exact cells_ints) | (exact no_mem) | (with_reducible exact plain_ints) | (refine le_maxLen ?_; omega) | (refine List.forall_mem_cons.2 ⟨?_, ?_⟩) | (simp only [go_sem, Nat.reduceAdd, Nat.reduceLT, List.mem_cons, List.not_mem_nil, forall_eq]; done)))
      all_goals (first | omega | (refine hN0 w _ hlt (by rw [hw]; exact hsucc.symm) (by refine Wk.auto ?_ ?_ <;> simp [extraK, lk, killL, St.kill, wipeO, wipeS, AV.has, AV.hasL, AO.wipe, List.map_set, updSt, insL, dropS, ins, ]); done))
  · obtain rfl : i = a.length := by omega
    rw [List.take_length] at hv
    have hv2 : v = mulS p (n) a b := hv
    rw [← hv2] at c1
    have hE := hE0
    clear hv hv2 hG
    simp (disch := first | omega | decide +kernel) only [go_sem, reduceEqDiff, reduceLT, reduceAdd, reduceMul, reduceSub, ↓reduceIte, reduceCtorEq, reduceLeDiff, reduceSubDiff, Nat.reduceBEq]
    (repeat' (first | (refine gsel_split (fun h => ?_) (fun h => ?_) <;> (have h' := h) <;> (try simp only [decide_eq_true_eq, decide_eq_false_iff_not, Bool.not_eq_true', Bool.not_eq_false', bne_iff_ne, ne_eq, beq_iff_eq, bne_eq_false_iff_eq, beq_eq_false_iff_ne, Int.ofNat_lt, Int.ofNat_le, Int.not_lt, Int.not_le, Decidable.not_not, Bool.and_eq_true, Bool.or_eq_true, Bool.or_eq_false_iff, gt_iff_lt, ge_iff_le] at h') <;> first | (exfalso; omega) | (simp (disch := first | omega | decide +kernel) only [h, D.ints, go_sem, reduceEqDiff, reduceLT, reduceAdd, reduceMul, reduceSub, ↓reduceIte, reduceCtorEq, reduceLeDiff, reduceSubDiff, Nat.reduceBEq] <;> clear h)) | ((first | refine callX_new (c1) rfl (by decide) ?_ | refine callY_new (c1) rfl ?_ | refine hE _ _ ret_ne ?_ | refine hE _ _ exit_ne ?_) <;> try simp (disch := first | omega | decide +kernel) only [D.ints, go_sem, reduceEqDiff, reduceLT, reduceAdd, reduceMul, reduceSub, ↓reduceIte, reduceCtorEq, reduceLeDiff, reduceSubDiff, Nat.reduceBEq]) | (refine hN _ ?_ ?_ Wk.kk) | (with_reducible refine And.intro ?_ ?_) | (with_reducible omega) | (exact ok_ints) | (exact cells_ints) | (exact no_mem) | (with_reducible exact plain_ints) | (refine le_maxLen ?_; omega) | (refine List.forall_mem_cons.2 ⟨?_, ?_⟩) | (simp only [go_sem, Nat.reduceAdd, Nat.reduceLT, List.mem_cons, List.not_mem_nil, forall_eq]; done)))
    all_goals (first | omega | exact ret_sl 6300000 rfl rfl plain_tms)
end
end Abs.Y
