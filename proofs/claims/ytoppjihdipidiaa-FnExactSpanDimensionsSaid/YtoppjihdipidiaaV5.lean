/- What functions of this program compute, as contracts over plain data, with what the proofs need of them. No condition. -/
import Derived.Test.YtoppjihdipidiaaV4
set_option linter.all false
namespace Abs.Y
open Go Go.Proofs Abs
open Nat (reduceEqDiff reduceLT reduceAdd reduceMul reduceSub reduceLeDiff reduceSubDiff)
set_option maxRecDepth 100000

section
variable {p : Int} {u : Nat} (hp : 1 < p ∧ p ≤ 5) (hu : u ≤ 6)
include hp hu
set_option maxHeartbeats 4000000 in
theorem l18AddK_ok {a b : List (Int × Int)} {k : Int} (hk : 0 ≤ k ∧ k ≤ 5) (hal : a.length ≤ 4294967296) (hbl : b.length ≤ 4294967296) (ha : Tms p (2 ^ u) a) (hb : Tms p (2 ^ u) b) :
    Ctr Try.prog 94 [.int .i64 p, .int .i64 u, D.tms a, D.tms b, .int .i64 k] false (.sl 0) [(0, .arr 124 2 ((spT (addD p k (dnT (2 ^ u) a) (dnT (2 ^ u) b))).map D.tm))] := by
  have h2 := pow_le6 hu
  have hva := Vec.dn (p := p) (by omega) ha
  have hvb := Vec.dn (p := p) (by omega) hb
  have c1 := l18Dense_ok hp hu hal ha
  have c2 := l18Dense_ok hp hu hbl hb
  generalize dnT (2 ^ u) a = x at *
  generalize dnT (2 ^ u) b = y at *
  have hxl := hva.1
  have hyl := hvb.1
  have hZ : ∀ i, 0 ≤ (List.zipWith (fun x y => x + k * y) x y).getD i 0 ∧ (List.zipWith (fun x y => x + k * y) x y).getD i 0 ≤ 1000 := fun i => by
    by_cases hi : i < x.length
    · rw [getD_zip _ _ _ (by omega) i hi]
      have h3 := hva.2 i
      have h4 := hvb.2 i
      have hkb : 0 ≤ k * y.getD i 0 ∧ k * y.getD i 0 ≤ 25 := ⟨Int.mul_nonneg hk.1 h4.1, Int.le_trans (Int.mul_le_mul hk.2 (show y.getD i 0 ≤ 5 by omega) h4.1 (by decide)) (by decide)⟩
      omega
    · rw [List.getD_eq_getElem?_getD, List.getElem?_eq_none (by simp; omega)]; simp
  have c3 := l18Sparse_ok hp hu (v := List.zipWith (fun x y => x + k * y) x y) (by simp; omega) hZ
  rw [add_mod] at c3
  generalize spT (addD p k x y) = G at *
  generalize 2 ^ u = n at *
  refine Ctr.of (n := 43) (rs := [.tmp 10]) Try.func94 rfl rfl Try.ntmps94 rfl rfl (by kernel_rfl) Try.checked.mixed ?_
  simp (disch := first | omega | decide +kernel) only [go_sem, reduceEqDiff, reduceLT, reduceAdd, reduceMul, reduceSub, ↓reduceIte, reduceCtorEq, reduceLeDiff, reduceSubDiff, Nat.reduceBEq]
  (repeat' (first | (refine gsel_split (fun h => ?_) (fun h => ?_) <;> (have h' := h) <;> (try simp only [decide_eq_true_eq, decide_eq_false_iff_not, Bool.not_eq_true', Bool.not_eq_false', bne_iff_ne, ne_eq, beq_iff_eq, bne_eq_false_iff_eq, beq_eq_false_iff_ne, Int.ofNat_lt, Int.ofNat_le, Int.not_lt, Int.not_le, Decidable.not_not, Bool.and_eq_true, Bool.or_eq_true, Bool.or_eq_false_iff, gt_iff_lt, ge_iff_le] at h') <;> first | (exfalso; omega) | (simp (disch := first | omega | decide +kernel) only [h, go_sem, reduceEqDiff, reduceLT, reduceAdd, reduceMul, reduceSub, ↓reduceIte, reduceCtorEq, reduceLeDiff, reduceSubDiff, Nat.reduceBEq] <;> clear h)) | ((first | refine callX_new (c1) rfl (by decide) ?_ | refine callY_new (c1) rfl ?_ | refine callX_new (c2) rfl (by decide) ?_ | refine callY_new (c2) rfl ?_ | refine hE _ _ ret_ne ?_ | refine hE _ _ exit_ne ?_) <;> try simp (disch := first | omega | decide +kernel) only [go_sem, reduceEqDiff, reduceLT, reduceAdd, reduceMul, reduceSub, ↓reduceIte, reduceCtorEq, reduceLeDiff, reduceSubDiff, Nat.reduceBEq]) | (refine hN _ ?_ ?_ Wk.kk) | (with_reducible refine And.intro ?_ ?_) | (with_reducible omega) | (exact ok_ints) | (exact cells_ints) | (exact no_mem) | (with_reducible exact plain_ints) | (refine le_maxLen ?_; omega) | (refine List.forall_mem_cons.2 ⟨?_, ?_⟩) | (simp only [go_sem, Nat.reduceAdd, Nat.reduceLT, List.mem_cons, List.not_mem_nil, forall_eq]; done)))
  refine Ok.loopN [39, 38, 37, 36, 35, 34, 33, 32, 31, 30, 29, 28, 27, 26, 25, 24, 23, 22, 21, 20, 19, 18, 17, 16, 15, 14, 13, 9, 8, 7, 6, 5, 3, 2, 1] (fun i _ => [(13, .d (.int .i64 (i : Nat)))]) (fun _ (v : List Int) => [(1700000, .arr 3 1 (List.map (D.int .i64) v))]) x.length
    (fun i v => v.length = x.length ∧ ∀ j, v.getD j 0 = if j < i then x.getD j 0 + k * y.getD j 0 else x.getD j 0) x ⟨rfl, by simp⟩ (Wk.kk) ?_
  rintro R i v hN hE hi ⟨hvl, hv⟩
  by_cases hlt : i < x.length
  · have hvi := hv i
    rw [if_neg (by omega)] at hvi
    have hai := hva.2 i
    have hbi := hvb.2 i
    have hkb : 0 ≤ k * y.getD i 0 ∧ k * y.getD i 0 ≤ 25 := ⟨Int.mul_nonneg hk.1 hbi.1, Int.le_trans (Int.mul_le_mul hk.2 (show y.getD i 0 ≤ 5 by omega) hbi.1 (by decide)) (by decide)⟩
    have hset : ∀ j, (v.set i (x.getD i 0 + k * y.getD i 0)).getD j 0 = if j < i + 1 then x.getD j 0 + k * y.getD j 0 else x.getD j 0 := fun j => by
      rw [getD_set]
      by_cases e : i = j
      · subst e; rw [if_pos ⟨rfl, by omega⟩, if_pos (by omega)]
      · rw [if_neg (fun h => e h.1), hv j]
        by_cases e2 : j < i
        · rw [if_pos e2, if_pos (by omega)]
        · rw [if_neg e2, if_neg (by omega)]
    clear hv c3 hZ
    simp (disch := first | omega | decide +kernel) only [hvi, go_sem, reduceEqDiff, reduceLT, reduceAdd, reduceMul, reduceSub, ↓reduceIte, reduceCtorEq, reduceLeDiff, reduceSubDiff, Nat.reduceBEq]
    (repeat' (first | (refine gsel_split (fun h => ?_) (fun h => ?_) <;> (have h' := h) <;> (try simp only [decide_eq_true_eq, decide_eq_false_iff_not, Bool.not_eq_true', Bool.not_eq_false', bne_iff_ne, ne_eq, beq_iff_eq, bne_eq_false_iff_eq, beq_eq_false_iff_ne, Int.ofNat_lt, Int.ofNat_le, Int.not_lt, Int.not_le, Decidable.not_not, Bool.and_eq_true, Bool.or_eq_true, Bool.or_eq_false_iff, gt_iff_lt, ge_iff_le] at h') <;> first | (exfalso; omega) | (simp (disch := first | omega | decide +kernel) only [h, hvi, go_sem, reduceEqDiff, reduceLT, reduceAdd, reduceMul, reduceSub, ↓reduceIte, reduceCtorEq, reduceLeDiff, reduceSubDiff, Nat.reduceBEq] <;> clear h)) | ((first | refine hE _ _ ret_ne ?_ | refine hE _ _ exit_ne ?_) <;> try simp (disch := first | omega | decide +kernel) only [hvi, go_sem, reduceEqDiff, reduceLT, reduceAdd, reduceMul, reduceSub, ↓reduceIte, reduceCtorEq, reduceLeDiff, reduceSubDiff, Nat.reduceBEq]) | (refine hN _ ?_ ?_ Wk.kk) | (with_reducible refine And.intro ?_ ?_) | (with_reducible omega) | (exact ok_ints) | (exact cells_ints) | (exact no_mem) | (with_reducible exact plain_ints) | (refine le_maxLen ?_; omega) | (refine List.forall_mem_cons.2 ⟨?_, ?_⟩) | (simp only [go_sem, Nat.reduceAdd, Nat.reduceLT, List.mem_cons, List.not_mem_nil, forall_eq]; done)))
    all_goals (first | omega | (refine hN (v.set i (x.getD i 0 + k * y.getD i 0)) _ hlt ⟨by simp [hvl], hset⟩ (by refine Wk.auto ?_ ?_ <;> simp [extraK, lk, killL, St.kill, wipeO, wipeS, AV.has, AV.hasL, AO.wipe, List.map_set, updSt, insL, dropS, ins, ]); done))
  · obtain rfl : i = x.length := by omega
    have hv2 : v = List.zipWith (fun x y => x + k * y) x y := by
      refine ext_getDz 0 (by simp; omega) fun j hj => ?_
      rw [hv j, if_pos (by omega), getD_zip _ _ _ (by omega) j (by omega)]
    rw [← hv2] at c3
    clear hv hv2 hZ
    simp (disch := first | omega | decide +kernel) only [go_sem, reduceEqDiff, reduceLT, reduceAdd, reduceMul, reduceSub, ↓reduceIte, reduceCtorEq, reduceLeDiff, reduceSubDiff, Nat.reduceBEq]
    (repeat' (first | (refine gsel_split (fun h => ?_) (fun h => ?_) <;> (have h' := h) <;> (try simp only [decide_eq_true_eq, decide_eq_false_iff_not, Bool.not_eq_true', Bool.not_eq_false', bne_iff_ne, ne_eq, beq_iff_eq, bne_eq_false_iff_eq, beq_eq_false_iff_ne, Int.ofNat_lt, Int.ofNat_le, Int.not_lt, Int.not_le, Decidable.not_not, Bool.and_eq_true, Bool.or_eq_true, Bool.or_eq_false_iff, gt_iff_lt, ge_iff_le] at h') <;> first | (exfalso; omega) | (simp (disch := first | omega | decide +kernel) only [h, D.ints, go_sem, reduceEqDiff, reduceLT, reduceAdd, reduceMul, reduceSub, ↓reduceIte, reduceCtorEq, reduceLeDiff, reduceSubDiff, Nat.reduceBEq] <;> clear h)) | ((first | refine callX_new (c3) rfl (by decide) ?_ | refine callY_new (c3) rfl ?_ | refine hE _ _ ret_ne ?_ | refine hE _ _ exit_ne ?_) <;> try simp (disch := first | omega | decide +kernel) only [D.ints, go_sem, reduceEqDiff, reduceLT, reduceAdd, reduceMul, reduceSub, ↓reduceIte, reduceCtorEq, reduceLeDiff, reduceSubDiff, Nat.reduceBEq]) | (refine hN _ ?_ ?_ Wk.kk) | (with_reducible refine And.intro ?_ ?_) | (with_reducible omega) | (exact ok_ints) | (exact cells_ints) | (exact no_mem) | (with_reducible exact plain_ints) | (refine le_maxLen ?_; omega) | (refine List.forall_mem_cons.2 ⟨?_, ?_⟩) | (simp only [go_sem, Nat.reduceAdd, Nat.reduceLT, List.mem_cons, List.not_mem_nil, forall_eq]; done)))
    all_goals (first | omega | exact ret_sl 4300000 rfl rfl plain_tms)
set_option maxHeartbeats 4000000 in
theorem l18Clause_ok {c : List Int} (hl : c.length ≤ 4294967296) (hc : ∀ l ∈ c, LitU u l) : Ctr Try.prog 84 [.int .i64 p, .int .i64 u, .ints c] true (.d (D.tms (spT (clauseD p u c)))) [] := by
  have h2 := pow_le6 hu
  have h1 : 0 < 2 ^ u := Nat.pow_pos (by decide)
  have hs0 := sp_one u (by omega)
  refine Ctr.of (n := 49) (rs := [.tmp 6]) Try.func84 rfl rfl Try.ntmps84 rfl rfl (by kernel_rfl) Try.checked.mixed ?_
  simp (disch := first | omega | decide +kernel) only [D.ints, go_sem, reduceEqDiff, reduceLT, reduceAdd, reduceMul, reduceSub, ↓reduceIte, reduceCtorEq, reduceLeDiff, reduceSubDiff, Nat.reduceBEq]
  (repeat' (first | (refine gsel_split (fun h => ?_) (fun h => ?_) <;> (have h' := h) <;> (try simp only [decide_eq_true_eq, decide_eq_false_iff_not, Bool.not_eq_true', Bool.not_eq_false', bne_iff_ne, ne_eq, beq_iff_eq, bne_eq_false_iff_eq, beq_eq_false_iff_ne, Int.ofNat_lt, Int.ofNat_le, Int.not_lt, Int.not_le, Decidable.not_not, Bool.and_eq_true, Bool.or_eq_true, Bool.or_eq_false_iff, gt_iff_lt, ge_iff_le] at h') <;> first | (exfalso; omega) | (simp (disch := first | omega | decide +kernel) only [h, D.ints, go_sem, reduceEqDiff, reduceLT, reduceAdd, reduceMul, reduceSub, ↓reduceIte, reduceCtorEq, reduceLeDiff, reduceSubDiff, Nat.reduceBEq] <;> clear h)) | ((first | refine hE _ _ ret_ne ?_ | refine hE _ _ exit_ne ?_) <;> try simp (disch := first | omega | decide +kernel) only [D.ints, go_sem, reduceEqDiff, reduceLT, reduceAdd, reduceMul, reduceSub, ↓reduceIte, reduceCtorEq, reduceLeDiff, reduceSubDiff, Nat.reduceBEq]) | (refine hN _ ?_ ?_ Wk.kk) | (with_reducible refine And.intro ?_ ?_) | (with_reducible omega) | (exact ok_ints) | (exact cells_ints) | (exact no_mem) | (with_reducible exact plain_ints) | (refine le_maxLen ?_; omega) | (refine List.forall_mem_cons.2 ⟨?_, ?_⟩) | (simp only [go_sem, Nat.reduceAdd, Nat.reduceLT, List.mem_cons, List.not_mem_nil, forall_eq]; done)))
  refine Ok.weak (Wk.frz (j := 11) rfl) ?_
  simp (disch := first | omega | decide +kernel) only [St.frz, frzS, frzO, AV.frz, AV.frzL, AO.frz, go_sem, reduceEqDiff, reduceLT, reduceAdd, reduceMul, reduceSub, ↓reduceIte, reduceCtorEq, reduceLeDiff, reduceSubDiff, Nat.reduceBEq]
  refine Ok.loopN [47, 46, 45, 44, 43, 42, 41, 40, 39, 38, 37, 36, 35, 34, 33, 32, 31, 30, 29, 28, 27, 26, 25, 24, 23, 22, 21, 20, 19, 18, 17, 16, 15, 14, 13, 12, 11, 10, 9, 8, 7, 5, 4, 3] (fun i (v : List Int) => [(8, .d (.int .i64 (i : Nat))), (7, .d (D.tms (spT v)))]) (fun _ _ => []) c.length
    (fun i v => v = (c.take i).foldl (fun v l => mulD p (2 ^ u) v (litD p u (0 - l))) (monoD u 0)) (monoD u 0) rfl (by refine Wk.auto ?_ ?_ <;> simp [extraK, lk, killL, St.kill, wipeO, wipeS, AV.has, AV.hasL, AO.wipe, List.map_set, updSt, insL, dropS, ins, D.ints, D.tms, D.tm, hs0, List.map_cons, List.map_nil]) ?_
  rintro R i v hN hE hi hv
  by_cases hlt : i < c.length
  · have hvv : Vec p (2 ^ u) v := by rw [hv]; exact fold_vec (fun v l h => Vec.mulD (by omega) _ _ _) _ (Vec.mono hp.1 u 0)
    have hs : (c.take (i + 1)).foldl (fun v l => mulD p (2 ^ u) v (litD p u (0 - l))) (monoD u 0) = mulD p (2 ^ u) v (litD p u (0 - c.getD i 0)) := by
      rw [take_succ 0 c i hlt, List.foldl_append, ← hv]; rfl
    have hli := hc _ (getD_mem (z := (0 : Int)) hlt)
    have hb : -100 ≤ c.getD i 0 ∧ c.getD i 0 ≤ 100 := by unfold LitU at hli; omega
    have hvL := Vec.lit hp.1 u (0 - c.getD i 0)
    have c2 := (l18Mul_ok hp hu (a := spT v) (b := spT (litD p u (0 - c.getD i 0))) (by have := Tms.len hvv.1 h2; omega) (by have := Tms.len hvL.1 h2; omega) (tms_sp hvv) (tms_sp hvL))
    rw [mul_eq (by omega)] at c2
    have hsv := Tms.len hvv.1 h2
    have c3 := l2Var_ok (c.getD i 0)
    clear hv
    generalize mulD p (2 ^ u) v (litD p u (0 - c.getD i 0)) = w at *
    generalize hLD : litD p u (0 - c.getD i 0) = q at *
    by_cases h0 : c.getD i 0 < 0
    · have hl0 : 1 ≤ 0 - c.getD i 0 ∧ 0 - c.getD i 0 ≤ u := by unfold LitU at hli; omega
      obtain ⟨k, hk⟩ : ∃ k : Nat, (0 - c.getD i 0 - 1).toNat = k := ⟨_, rfl⟩
      have e : IntKind.wrap .i64 (1 * 2 ^ min k 64) = ((2 ^ k : Nat) : Int) := shl_one (by omega)
      have hq : spT q = [(((2 ^ k : Nat) : Int), (1 : Int))] := by
        rw [← hLD, litD, if_pos (by omega), hk]; exact sp_mono u (by omega) k (by omega)
      rw [hq, show D.tms [(((2 ^ k : Nat) : Int), (1 : Int))] = D.slice [.agg [.int .i64 ((2 ^ k : Nat) : Int), .int .i64 1]] from rfl] at c2
      have hx : varI (c.getD i 0) = (k : Int) + 1 := by rw [varI_eq (by omega)]; omega
      rw [hx] at c3
      have hw : (k : Int) + 1 - 1 = (k : Int) := by omega
      have hw2 : IntKind.i64.wrap (k : Int) = k := wrap_of (by omega)
      have hpk : 2 ^ k ≤ 64 := pow_le6 (by omega)
      generalize 2 ^ k = m at *
      clear hLD hq hk
      simp (disch := first | omega | decide +kernel) only [D.ints, hw, hw2, Int.toNat_natCast, e, go_sem, reduceEqDiff, reduceLT, reduceAdd, reduceMul, reduceSub, ↓reduceIte, reduceCtorEq, reduceLeDiff, reduceSubDiff, Nat.reduceBEq]
      (repeat' (first | (refine gsel_split (fun h => ?_) (fun h => ?_) <;> (have h' := h) <;> (try simp only [decide_eq_true_eq, decide_eq_false_iff_not, Bool.not_eq_true', Bool.not_eq_false', bne_iff_ne, ne_eq, beq_iff_eq, bne_eq_false_iff_eq, beq_eq_false_iff_ne, Int.ofNat_lt, Int.ofNat_le, Int.not_lt, Int.not_le, Decidable.not_not, Bool.and_eq_true, Bool.or_eq_true, Bool.or_eq_false_iff, gt_iff_lt, ge_iff_le] at h') <;> first | (exfalso; omega) | (simp (disch := first | omega | decide +kernel) only [h, D.ints, hw, hw2, Int.toNat_natCast, e, go_sem, reduceEqDiff, reduceLT, reduceAdd, reduceMul, reduceSub, ↓reduceIte, reduceCtorEq, reduceLeDiff, reduceSubDiff, Nat.reduceBEq] <;> clear h)) | ((first | refine callX_new (c3) rfl (by decide) ?_ | refine callY_new (c3) rfl ?_ | refine callX_new (c2) rfl (by decide) ?_ | refine callY_new (c2) rfl ?_ | refine hE _ _ ret_ne ?_ | refine hE _ _ exit_ne ?_) <;> try simp (disch := first | omega | decide +kernel) only [D.ints, hw, hw2, Int.toNat_natCast, e, go_sem, reduceEqDiff, reduceLT, reduceAdd, reduceMul, reduceSub, ↓reduceIte, reduceCtorEq, reduceLeDiff, reduceSubDiff, Nat.reduceBEq]) | (refine hN _ ?_ ?_ Wk.kk) | (with_reducible refine And.intro ?_ ?_) | (with_reducible omega) | (exact ok_ints) | (exact cells_ints) | (exact no_mem) | (with_reducible exact plain_ints) | (refine le_maxLen ?_; omega) | (refine List.forall_mem_cons.2 ⟨?_, ?_⟩) | (simp only [go_sem, Nat.reduceAdd, Nat.reduceLT, List.mem_cons, List.not_mem_nil, forall_eq]; done)))
      all_goals (first | omega | (refine hN w _ hlt hs.symm ((Wk.frz (j := 3700000) rfl).trans (by simp only [St.frz, frzS, frzO, AV.frz, AV.frzL, AO.frz, Nat.reduceEqDiff, Nat.reduceBEq, reduceCtorEq, ↓reduceIte, Bool.false_eq_true]; exact (by refine Wk.auto ?_ ?_ <;> simp [extraK, lk, killL, St.kill, wipeO, wipeS, AV.has, AV.hasL, AO.wipe, List.map_set, updSt, insL, dropS, ins, D.ints]))); done))
    · have hl0 : 1 ≤ c.getD i 0 ∧ c.getD i 0 ≤ u := by unfold LitU at hli; omega
      obtain ⟨k, hk⟩ : ∃ k : Nat, (c.getD i 0 - 1).toNat = k := ⟨_, rfl⟩
      have e : IntKind.wrap .i64 (1 * 2 ^ min k 64) = ((2 ^ k : Nat) : Int) := shl_one (by omega)
      have hq : spT q = [((0 : Int), (1 : Int)), (((2 ^ k : Nat) : Int), p - 1)] := by
        rw [← hLD, litD, if_neg (by omega), show (0 - (0 - c.getD i 0) - 1).toNat = k by omega]; exact sp_neg hp hu (by omega)
      rw [hq, show D.tms [((0 : Int), (1 : Int)), (((2 ^ k : Nat) : Int), p - 1)] = D.slice [.agg [.int .i64 0, .int .i64 1], .agg [.int .i64 ((2 ^ k : Nat) : Int), .int .i64 (p - 1)]] from rfl] at c2
      have hx : varI (c.getD i 0) = (k : Int) + 1 := by rw [varI_eq (by omega)]; omega
      rw [hx] at c3
      have hw : (k : Int) + 1 - 1 = (k : Int) := by omega
      have hw2 : IntKind.i64.wrap (k : Int) = k := wrap_of (by omega)
      have hpk : 2 ^ k ≤ 64 := pow_le6 (by omega)
      generalize 2 ^ k = m at *
      clear hLD hq hk
      simp (disch := first | omega | decide +kernel) only [D.ints, hw, hw2, Int.toNat_natCast, e, go_sem, reduceEqDiff, reduceLT, reduceAdd, reduceMul, reduceSub, ↓reduceIte, reduceCtorEq, reduceLeDiff, reduceSubDiff, Nat.reduceBEq]
      (repeat' (first | (refine gsel_split (fun h => ?_) (fun h => ?_) <;> (have h' := h) <;> (try simp only [decide_eq_true_eq, decide_eq_false_iff_not, Bool.not_eq_true', Bool.not_eq_false', bne_iff_ne, ne_eq, beq_iff_eq, bne_eq_false_iff_eq, beq_eq_false_iff_ne, Int.ofNat_lt, Int.ofNat_le, Int.not_lt, Int.not_le, Decidable.not_not, Bool.and_eq_true, Bool.or_eq_true, Bool.or_eq_false_iff, gt_iff_lt, ge_iff_le] at h') <;> first | (exfalso; omega) | (simp (disch := first | omega | decide +kernel) only [h, D.ints, hw, hw2, Int.toNat_natCast, e, go_sem, reduceEqDiff, reduceLT, reduceAdd, reduceMul, reduceSub, ↓reduceIte, reduceCtorEq, reduceLeDiff, reduceSubDiff, Nat.reduceBEq] <;> clear h)) | ((first | refine callX_new (c3) rfl (by decide) ?_ | refine callY_new (c3) rfl ?_ | refine callX_new (c2) rfl (by decide) ?_ | refine callY_new (c2) rfl ?_ | refine hE _ _ ret_ne ?_ | refine hE _ _ exit_ne ?_) <;> try simp (disch := first | omega | decide +kernel) only [D.ints, hw, hw2, Int.toNat_natCast, e, go_sem, reduceEqDiff, reduceLT, reduceAdd, reduceMul, reduceSub, ↓reduceIte, reduceCtorEq, reduceLeDiff, reduceSubDiff, Nat.reduceBEq]) | (refine hN _ ?_ ?_ Wk.kk) | (with_reducible refine And.intro ?_ ?_) | (with_reducible omega) | (exact ok_ints) | (exact cells_ints) | (exact no_mem) | (with_reducible exact plain_ints) | (refine le_maxLen ?_; omega) | (refine List.forall_mem_cons.2 ⟨?_, ?_⟩) | (simp only [go_sem, Nat.reduceAdd, Nat.reduceLT, List.mem_cons, List.not_mem_nil, forall_eq]; done)))
      all_goals (first | omega | (refine hN w _ hlt hs.symm ((Wk.frz (j := 4800000) rfl).trans (by simp only [St.frz, frzS, frzO, AV.frz, AV.frzL, AO.frz, Nat.reduceEqDiff, Nat.reduceBEq, reduceCtorEq, ↓reduceIte, Bool.false_eq_true]; exact (by refine Wk.auto ?_ ?_ <;> simp [extraK, lk, killL, St.kill, wipeO, wipeS, AV.has, AV.hasL, AO.wipe, List.map_set, updSt, insL, dropS, ins, D.ints]))); done))
  · obtain rfl : i = c.length := by omega
    rw [List.take_length] at hv
    have hv2 : v = clauseD p u c := hv
    rw [← hv2] at hE
    simp (disch := first | omega | decide +kernel) only [D.ints, go_sem, reduceEqDiff, reduceLT, reduceAdd, reduceMul, reduceSub, ↓reduceIte, reduceCtorEq, reduceLeDiff, reduceSubDiff, Nat.reduceBEq]
    (repeat' (first | (refine gsel_split (fun h => ?_) (fun h => ?_) <;> (have h' := h) <;> (try simp only [decide_eq_true_eq, decide_eq_false_iff_not, Bool.not_eq_true', Bool.not_eq_false', bne_iff_ne, ne_eq, beq_iff_eq, bne_eq_false_iff_eq, beq_eq_false_iff_ne, Int.ofNat_lt, Int.ofNat_le, Int.not_lt, Int.not_le, Decidable.not_not, Bool.and_eq_true, Bool.or_eq_true, Bool.or_eq_false_iff, gt_iff_lt, ge_iff_le] at h') <;> first | (exfalso; omega) | (simp (disch := first | omega | decide +kernel) only [h, D.ints, go_sem, reduceEqDiff, reduceLT, reduceAdd, reduceMul, reduceSub, ↓reduceIte, reduceCtorEq, reduceLeDiff, reduceSubDiff, Nat.reduceBEq] <;> clear h)) | ((first | refine hE _ _ ret_ne ?_ | refine hE _ _ exit_ne ?_) <;> try simp (disch := first | omega | decide +kernel) only [D.ints, go_sem, reduceEqDiff, reduceLT, reduceAdd, reduceMul, reduceSub, ↓reduceIte, reduceCtorEq, reduceLeDiff, reduceSubDiff, Nat.reduceBEq]) | (refine hN _ ?_ ?_ Wk.kk) | (with_reducible refine And.intro ?_ ?_) | (with_reducible omega) | (exact ok_ints) | (exact cells_ints) | (exact no_mem) | (with_reducible exact plain_ints) | (refine le_maxLen ?_; omega) | (refine List.forall_mem_cons.2 ⟨?_, ?_⟩) | (simp only [go_sem, Nat.reduceAdd, Nat.reduceLT, List.mem_cons, List.not_mem_nil, forall_eq]; done)))
    all_goals (first | omega | exact ret_s1 [] rfl)
end
end Abs.Y
