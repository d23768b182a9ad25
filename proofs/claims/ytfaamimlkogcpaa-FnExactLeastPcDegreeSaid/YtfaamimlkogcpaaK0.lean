/- What functions of this program compute, as contracts over plain data, with what the proofs need of them. No condition. -/
import Derived.Test.YtfaamimlkogcpaaV4
import Derived.Test.YtfaamimlkogcpaaAbsRow
import Derived.Test.YtfaamimlkogcpaaG4
set_option linter.all false
namespace Abs.Y
open Go Go.Proofs Abs
open Nat renaming reduceEqDiff → zqa, reduceLT → zqb, reduceAdd → zqc, reduceMul → zqd, reduceSub → zqe, reduceLeDiff → zqf, reduceSubDiff → zqg, reduceBEq → zqh
open Bool renaming not_eq_true' → zba, not_eq_false' → zbb, and_eq_true → zbc, or_eq_true → zbd, or_eq_false_iff → zbe
open Int renaming ofNat_lt → zia, ofNat_le → zib, not_lt → zic, not_le → zid
open Decidable renaming not_not → zda
set_option maxRecDepth 100000

section
variable {p : Int} {u : Nat} (hp : 1 < p ∧ p ≤ 5) (hu : u ≤ 6)
include hp hu
set_option maxHeartbeats 4000000 in
theorem l18AddK_ok {a b : List (Int × Int)} {k : Int} (hk : 0 ≤ k ∧ k ≤ 5) (hal : a.length ≤ 4294967296) (hbl : b.length ≤ 4294967296) (ha : Tms p (2 ^ u) a) (hb : Tms p (2 ^ u) b) :
    Ctr Try.prog 57 [.int .i64 p, .int .i64 u, D.tms a, D.tms b, .int .i64 k] false (.sl 0) [(0, .arr 84 2 ((spT (addD p k (dnT (2 ^ u) a) (dnT (2 ^ u) b))).map D.tm))] := by
  have h2 := pow_le6 hu
  have hva := Vec.dn (p := p) (by omega) ha
  have hvb := Vec.dn (p := p) (by omega) hb
  have c1 := l18Dense_ok hp hu hal ha
  have c2 := l18Dense_ok hp hu hbl hb
  generalize dnT (2 ^ u) a = x at *
  generalize dnT (2 ^ u) b = y at *
  have hxl := hva.1
  have hyl := hvb.1
  have hZ : ∀ i, 0 ≤ (List.zipWith (fun x y => x + k * y) x y).getD i 0 ∧ (List.zipWith (fun x y => x + k * y) x y).getD i 0 ≤ 1000 := fun i => by
    by_cases hi : i < x.length
    · rw [getD_zip _ _ _ (by omega) i hi]
      have h3 := hva.2 i
      have h4 := hvb.2 i
      have hkb : 0 ≤ k * y.getD i 0 ∧ k * y.getD i 0 ≤ 25 := ⟨Int.mul_nonneg hk.1 h4.1, Int.le_trans (Int.mul_le_mul hk.2 (show y.getD i 0 ≤ 5 by omega) h4.1 (by decide)) (by decide)⟩
      omega
    · rw [List.getD_eq_getElem?_getD, List.getElem?_eq_none (by simp; omega)]; simp
  have c3 := l18Sparse_ok hp hu (v := List.zipWith (fun x y => x + k * y) x y) (by simp; omega) hZ
  rw [add_mod] at c3
  generalize spT (addD p k x y) = G at *
  generalize 2 ^ u = n at *
  refine Ctr.of (n := 43) (rs := [.tmp 10]) Try.func57 rfl rfl Try.ntmps57 rfl rfl (by kernel_rfl) Try.checked.mixed ?_
  simp (disch := first | omega | decide +kernel) only [go_sem, zqa, zqb, zqc, zqd, zqe, ↓reduceIte, reduceCtorEq, zqf, zqg, zqh]
  (repeat' (first | ((first | (refine gsel_split (fun q' => ?_) (fun q' => ?_) <;> (have h' := q') <;> (try simp only [decide_eq_true_eq, decide_eq_false_iff_not, zba, zbb, bne_iff_ne, ne_eq, beq_iff_eq, bne_eq_false_iff_eq, beq_eq_false_iff_ne, zia, zib, zic, zid, zda, zbc, zbd, zbe, gt_iff_lt, ge_iff_le] at h') <;> try (exfalso; omega)) | (have q' := trivial; first | refine callX_new (c1) rfl (by decide) ?_ | refine callY_new (c1) rfl ?_ | refine callX_new (c2) rfl (by decide) ?_ | refine callY_new (c2) rfl ?_ | refine hE _ _ ret_ne ?_ | refine hE _ _ exit_ne ?_)) <;> (try simp (disch := first | omega | decide +kernel) only [q', go_sem, zqa, zqb, zqc, zqd, zqe, ↓reduceIte, reduceCtorEq, zqf, zqg, zqh]) <;> clear q') | (refine hN _ ?_ ?_ Wk.kk) | (with_reducible refine And.intro ?_ ?_) | (with_reducible omega) | (exact ok_ints) | (exact cells_ints) | (exact no_mem) | (with_reducible exact plain_ints) | (refine le_maxLen ?_; omega) | (refine List.forall_mem_cons.2 ⟨?_, ?_⟩) | (simp only [go_sem, zqc, zqb, List.mem_cons, List.not_mem_nil, forall_eq]; done)))
  refine Ok.loopN [39, 38, 37, 36, 35, 34, 33, 32, 31, 30, 29, 28, 27, 26, 25, 24, 23, 22, 21, 20, 19, 18, 17, 16, 15, 14, 13, 9, 8, 7, 6, 5, 3, 2, 1] (fun i _ => [(13, .d (.int .i64 (i : Nat)))]) (fun _ (v : List Int) => [(1700000, .arr 3 1 (List.map (D.int .i64) v))]) x.length
    (fun i v => v.length = x.length ∧ ∀ j, v.getD j 0 = if j < i then x.getD j 0 + k * y.getD j 0 else x.getD j 0) x ⟨rfl, by simp⟩ (Wk.kk) ?_
  rintro R i v hN hE hi ⟨hvl, hv⟩
  by_cases hlt : i < x.length
  · have hvi := hv i
    rw [if_neg (by omega)] at hvi
    have hai := hva.2 i
    have hbi := hvb.2 i
    have hkb : 0 ≤ k * y.getD i 0 ∧ k * y.getD i 0 ≤ 25 := ⟨Int.mul_nonneg hk.1 hbi.1, Int.le_trans (Int.mul_le_mul hk.2 (show y.getD i 0 ≤ 5 by omega) hbi.1 (by decide)) (by decide)⟩
    have hset : ∀ j, (v.set i (x.getD i 0 + k * y.getD i 0)).getD j 0 = if j < i + 1 then x.getD j 0 + k * y.getD j 0 else x.getD j 0 := fun j => by
      rw [getD_set]
      by_cases e : i = j
      · subst e; rw [if_pos ⟨rfl, by omega⟩, if_pos (by omega)]
      · rw [if_neg (fun h => e h.1), hv j]
        by_cases e2 : j < i
        · rw [if_pos e2, if_pos (by omega)]
        · rw [if_neg e2, if_neg (by omega)]
    clear hv c3 hZ
    simp (disch := first | omega | decide +kernel) only [hvi, go_sem, zqa, zqb, zqc, zqd, zqe, ↓reduceIte, reduceCtorEq, zqf, zqg, zqh]
    (repeat' (first | ((first | (refine gsel_split (fun q' => ?_) (fun q' => ?_) <;> (have h' := q') <;> (try simp only [decide_eq_true_eq, decide_eq_false_iff_not, zba, zbb, bne_iff_ne, ne_eq, beq_iff_eq, bne_eq_false_iff_eq, beq_eq_false_iff_ne, zia, zib, zic, zid, zda, zbc, zbd, zbe, gt_iff_lt, ge_iff_le] at h') <;> try (exfalso; omega)) | (have q' := trivial; first | refine hE _ _ ret_ne ?_ | refine hE _ _ exit_ne ?_)) <;> (try simp (disch := first | omega | decide +kernel) only [q', hvi, go_sem, zqa, zqb, zqc, zqd, zqe, ↓reduceIte, reduceCtorEq, zqf, zqg, zqh]) <;> clear q') | (refine hN _ ?_ ?_ Wk.kk) | (with_reducible refine And.intro ?_ ?_) | (with_reducible omega) | (exact ok_ints) | (exact cells_ints) | (exact no_mem) | (with_reducible exact plain_ints) | (refine le_maxLen ?_; omega) | (refine List.forall_mem_cons.2 ⟨?_, ?_⟩) | (simp only [go_sem, zqc, zqb, List.mem_cons, List.not_mem_nil, forall_eq]; done)))
    all_goals (first | omega | (refine hN (v.set i (x.getD i 0 + k * y.getD i 0)) _ hlt ⟨by simp [hvl], hset⟩ (by refine Wk.auto ?_ ?_ <;> simp [extraK, lk, killL, St.kill, wipeO, wipeS, AV.has, AV.hasL, AO.wipe, List.map_set, updSt, insL, dropS, ins, ]); done))
  · obtain rfl : i = x.length := by omega
    have hv2 : v = List.zipWith (fun x y => x + k * y) x y := by
      refine ext_getDz 0 (by simp; omega) fun j hj => ?_
      rw [hv j, if_pos (by omega), getD_zip _ _ _ (by omega) j (by omega)]
    rw [← hv2] at c3
    clear hv hv2 hZ
    simp (disch := first | omega | decide +kernel) only [go_sem, zqa, zqb, zqc, zqd, zqe, ↓reduceIte, reduceCtorEq, zqf, zqg, zqh]
    (repeat' (first | ((first | (refine gsel_split (fun q' => ?_) (fun q' => ?_) <;> (have h' := q') <;> (try simp only [decide_eq_true_eq, decide_eq_false_iff_not, zba, zbb, bne_iff_ne, ne_eq, beq_iff_eq, bne_eq_false_iff_eq, beq_eq_false_iff_ne, zia, zib, zic, zid, zda, zbc, zbd, zbe, gt_iff_lt, ge_iff_le] at h') <;> try (exfalso; omega)) | (have q' := trivial; first | refine callX_new (c3) rfl (by decide) ?_ | refine callY_new (c3) rfl ?_ | refine hE _ _ ret_ne ?_ | refine hE _ _ exit_ne ?_)) <;> (try simp (disch := first | omega | decide +kernel) only [q', D.ints, go_sem, zqa, zqb, zqc, zqd, zqe, ↓reduceIte, reduceCtorEq, zqf, zqg, zqh]) <;> clear q') | (refine hN _ ?_ ?_ Wk.kk) | (with_reducible refine And.intro ?_ ?_) | (with_reducible omega) | (exact ok_ints) | (exact cells_ints) | (exact no_mem) | (with_reducible exact plain_ints) | (refine le_maxLen ?_; omega) | (refine List.forall_mem_cons.2 ⟨?_, ?_⟩) | (simp only [go_sem, zqc, zqb, List.mem_cons, List.not_mem_nil, forall_eq]; done)))
    all_goals (first | omega | exact ret_sl 4300000 rfl rfl plain_tms)
set_option maxHeartbeats 4000000 in
theorem l18Clause_ok {c : List Int} (hl : c.length ≤ 4294967296) (hc : ∀ l ∈ c, LitU u l) : Ctr Try.prog 45 [.int .i64 p, .int .i64 u, .ints c] true (.d (D.tms (spT (clauseD p u c)))) [] := by
  have h2 := pow_le6 hu
  have h1 : 0 < 2 ^ u := Nat.pow_pos (by decide)
  have hs0 := sp_one u (by omega)
  refine Ctr.of (n := 49) (rs := [.tmp 6]) Try.func45 rfl rfl Try.ntmps45 rfl rfl (by kernel_rfl) Try.checked.mixed ?_
  simp (disch := first | omega | decide +kernel) only [D.ints, go_sem, zqa, zqb, zqc, zqd, zqe, ↓reduceIte, reduceCtorEq, zqf, zqg, zqh]
  (repeat' (first | ((first | (refine gsel_split (fun q' => ?_) (fun q' => ?_) <;> (have h' := q') <;> (try simp only [decide_eq_true_eq, decide_eq_false_iff_not, zba, zbb, bne_iff_ne, ne_eq, beq_iff_eq, bne_eq_false_iff_eq, beq_eq_false_iff_ne, zia, zib, zic, zid, zda, zbc, zbd, zbe, gt_iff_lt, ge_iff_le] at h') <;> try (exfalso; omega)) | (have q' := trivial; first | refine hE _ _ ret_ne ?_ | refine hE _ _ exit_ne ?_)) <;> (try simp (disch := first | omega | decide +kernel) only [q', D.ints, go_sem, zqa, zqb, zqc, zqd, zqe, ↓reduceIte, reduceCtorEq, zqf, zqg, zqh]) <;> clear q') | (refine hN _ ?_ ?_ Wk.kk) | (with_reducible refine And.intro ?_ ?_) | (with_reducible omega) | (exact ok_ints) | (exact cells_ints) | (exact no_mem) | (with_reducible exact plain_ints) | (refine le_maxLen ?_; omega) | (refine List.forall_mem_cons.2 ⟨?_, ?_⟩) | (simp only [go_sem, zqc, zqb, List.mem_cons, List.not_mem_nil, forall_eq]; done)))
  refine Ok.weak (Wk.frz (j := 11) rfl) ?_
  simp (disch := first | omega | decide +kernel) only [St.frz, frzS, frzO, AV.frz, AV.frzL, AO.frz, go_sem, zqa, zqb, zqc, zqd, zqe, ↓reduceIte, reduceCtorEq, zqf, zqg, zqh]
  refine Ok.loopN [47, 46, 45, 44, 43, 42, 41, 40, 39, 38, 37, 36, 35, 34, 33, 32, 31, 30, 29, 28, 27, 26, 25, 24, 23, 22, 21, 20, 19, 18, 17, 16, 15, 14, 13, 12, 11, 10, 9, 8, 7, 5, 4, 3] (fun i (v : List Int) => [(8, .d (.int .i64 (i : Nat))), (7, .d (D.tms (spT v)))]) (fun _ _ => []) c.length
    (fun i v => v = (c.take i).foldl (fun v l => mulD p (2 ^ u) v (litD p u (0 - l))) (monoD u 0)) (monoD u 0) rfl (by refine Wk.auto ?_ ?_ <;> simp [extraK, lk, killL, St.kill, wipeO, wipeS, AV.has, AV.hasL, AO.wipe, List.map_set, updSt, insL, dropS, ins, D.ints, D.tms, D.tm, hs0, List.map_cons, List.map_nil]) ?_
  rintro R i v hN hE hi hv
  by_cases hlt : i < c.length
  · have hvv : Vec p (2 ^ u) v := by rw [hv]; exact fold_vec (fun v l h => Vec.mulD (by omega) _ _ _) _ (Vec.mono hp.1 u 0)
    have hs : (c.take (i + 1)).foldl (fun v l => mulD p (2 ^ u) v (litD p u (0 - l))) (monoD u 0) = mulD p (2 ^ u) v (litD p u (0 - c.getD i 0)) := by
      rw [take_succ 0 c i hlt, List.foldl_append, ← hv]; rfl
    have hli := hc _ (getD_mem (z := (0 : Int)) hlt)
    have hb : -100 ≤ c.getD i 0 ∧ c.getD i 0 ≤ 100 := by unfold LitU at hli; omega
    have hvL := Vec.lit hp.1 u (0 - c.getD i 0)
    have c2 := (l18Mul_ok hp hu (a := spT v) (b := spT (litD p u (0 - c.getD i 0))) (by have := Tms.len hvv.1 h2; omega) (by have := Tms.len hvL.1 h2; omega) (tms_sp hvv) (tms_sp hvL))
    rw [mul_eq (by omega)] at c2
    have hsv := Tms.len hvv.1 h2
    have c3 := l2Var_ok (c.getD i 0)
    clear hv
    generalize mulD p (2 ^ u) v (litD p u (0 - c.getD i 0)) = w at *
    generalize hLD : litD p u (0 - c.getD i 0) = q at *
    by_cases h0 : c.getD i 0 < 0
    · have hl0 : 1 ≤ 0 - c.getD i 0 ∧ 0 - c.getD i 0 ≤ u := by unfold LitU at hli; omega
      obtain ⟨k, hk⟩ : ∃ k : Nat, (0 - c.getD i 0 - 1).toNat = k := ⟨_, rfl⟩
      have e : IntKind.wrap .i64 (1 * 2 ^ min k 64) = ((2 ^ k : Nat) : Int) := shl_one (by omega)
      have hq : spT q = [(((2 ^ k : Nat) : Int), (1 : Int))] := by
        rw [← hLD, litD, if_pos (by omega), hk]; exact sp_mono u (by omega) k (by omega)
      rw [hq, show D.tms [(((2 ^ k : Nat) : Int), (1 : Int))] = D.slice [.agg [.int .i64 ((2 ^ k : Nat) : Int), .int .i64 1]] from rfl] at c2
      have hx : varI (c.getD i 0) = (k : Int) + 1 := by rw [varI_eq (by omega)]; omega
      rw [hx] at c3
      have hw : (k : Int) + 1 - 1 = (k : Int) := by omega
      have hw2 : IntKind.i64.wrap (k : Int) = k := wrap_of (by omega)
      have hpk : 2 ^ k ≤ 64 := pow_le6 (by omega)
      generalize 2 ^ k = m at *
      clear hLD hq hk
      simp (disch := first | omega | decide +kernel) only [D.ints, hw, hw2, Int.toNat_natCast, e, go_sem, zqa, zqb, zqc, zqd, zqe, ↓reduceIte, reduceCtorEq, zqf, zqg, zqh]
      (repeat' (first | ((first | (refine gsel_split (fun q' => ?_) (fun q' => ?_) <;> (have h' := q') <;> (try simp only [decide_eq_true_eq, decide_eq_false_iff_not, zba, zbb, bne_iff_ne, ne_eq, beq_iff_eq, bne_eq_false_iff_eq, beq_eq_false_iff_ne, zia, zib, zic, zid, zda, zbc, zbd, zbe, gt_iff_lt, ge_iff_le] at h') <;> try (exfalso; omega)) | (have q' := trivial; first | refine callX_new (c3) rfl (by decide) ?_ | refine callY_new (c3) rfl ?_ | refine callX_new (c2) rfl (by decide) ?_ | refine callY_new (c2) rfl ?_ | refine hE _ _ ret_ne ?_ | refine hE _ _ exit_ne ?_)) <;> (try simp (disch := first | omega | decide +kernel) only [q', D.ints, hw, hw2, Int.toNat_natCast, e, go_sem, zqa, zqb, zqc, zqd, zqe, ↓reduceIte, reduceCtorEq, zqf, zqg, zqh]) <;> clear q') | (refine hN _ ?_ ?_ Wk.kk) | (with_reducible refine And.intro ?_ ?_) | (with_reducible omega) | (exact ok_ints) | (exact cells_ints) | (exact no_mem) | (with_reducible exact plain_ints) | (refine le_maxLen ?_; omega) | (refine List.forall_mem_cons.2 ⟨?_, ?_⟩) | (simp only [go_sem, zqc, zqb, List.mem_cons, List.not_mem_nil, forall_eq]; done)))
      all_goals (first | omega | (refine hN w _ hlt hs.symm ((Wk.frz (j := 3700000) rfl).trans (by simp only [St.frz, frzS, frzO, AV.frz, AV.frzL, AO.frz, zqa, zqh, reduceCtorEq, ↓reduceIte, Bool.false_eq_true]; exact (by refine Wk.auto ?_ ?_ <;> simp [extraK, lk, killL, St.kill, wipeO, wipeS, AV.has, AV.hasL, AO.wipe, List.map_set, updSt, insL, dropS, ins, D.ints]))); done))
    · have hl0 : 1 ≤ c.getD i 0 ∧ c.getD i 0 ≤ u := by unfold LitU at hli; omega
      obtain ⟨k, hk⟩ : ∃ k : Nat, (c.getD i 0 - 1).toNat = k := ⟨_, rfl⟩
      have e : IntKind.wrap .i64 (1 * 2 ^ min k 64) = ((2 ^ k : Nat) : Int) := shl_one (by omega)
      have hq : spT q = [((0 : Int), (1 : Int)), (((2 ^ k : Nat) : Int), p - 1)] := by
        rw [← hLD, litD, if_neg (by omega), show (0 - (0 - c.getD i 0) - 1).toNat = k by omega]; exact sp_neg hp hu (by omega)
      rw [hq, show D.tms [((0 : Int), (1 : Int)), (((2 ^ k : Nat) : Int), p - 1)] = D.slice [.agg [.int .i64 0, .int .i64 1], .agg [.int .i64 ((2 ^ k : Nat) : Int), .int .i64 (p - 1)]] from rfl] at c2
      have hx : varI (c.getD i 0) = (k : Int) + 1 := by rw [varI_eq (by omega)]; omega
      rw [hx] at c3
      have hw : (k : Int) + 1 - 1 = (k : Int) := by omega
      have hw2 : IntKind.i64.wrap (k : Int) = k := wrap_of (by omega)
      have hpk : 2 ^ k ≤ 64 := pow_le6 (by omega)
      generalize 2 ^ k = m at *
      clear hLD hq hk
      simp (disch := first | omega | decide +kernel) only [D.ints, hw, hw2, Int.toNat_natCast, e, go_sem, zqa, zqb, zqc, zqd, zqe, ↓reduceIte, reduceCtorEq, zqf, zqg, zqh]
      (repeat' (first | ((first | (refine gsel_split (fun q' => ?_) (fun q' => ?_) <;> (have h' := q') <;> (try simp only [decide_eq_true_eq, decide_eq_false_iff_not, zba, zbb, bne_iff_ne, ne_eq, beq_iff_eq, bne_eq_false_iff_eq, beq_eq_false_iff_ne, zia, zib, zic, zid, zda, zbc, zbd, zbe, gt_iff_lt, ge_iff_le] at h') <;> try (exfalso; omega)) | (have q' := trivial; first | refine callX_new (c3) rfl (by decide) ?_ | refine callY_new (c3) rfl ?_ | refine callX_new (c2) rfl (by decide) ?_ | refine callY_new (c2) rfl ?_ | refine hE _ _ ret_ne ?_ | refine hE _ _ exit_ne ?_)) <;> (try simp (disch := first | omega | decide +kernel) only [q', D.ints, hw, hw2, Int.toNat_natCast, e, go_sem, zqa, zqb, zqc, zqd, zqe, ↓reduceIte, reduceCtorEq, zqf, zqg, zqh]) <;> clear q') | (refine hN _ ?_ ?_ Wk.kk) | (with_reducible refine And.intro ?_ ?_) | (with_reducible omega) | (exact ok_ints) | (exact cells_ints) | (exact no_mem) | (with_reducible exact plain_ints) | (refine le_maxLen ?_; omega) | (refine List.forall_mem_cons.2 ⟨?_, ?_⟩) | (simp only [go_sem, zqc, zqb, List.mem_cons, List.not_mem_nil, forall_eq]; done)))
      all_goals (first | omega | (refine hN w _ hlt hs.symm ((Wk.frz (j := 4800000) rfl).trans (by simp only [St.frz, frzS, frzO, AV.frz, AV.frzL, AO.frz, zqa, zqh, reduceCtorEq, ↓reduceIte, Bool.false_eq_true]; exact (by refine Wk.auto ?_ ?_ <;> simp [extraK, lk, killL, St.kill, wipeO, wipeS, AV.has, AV.hasL, AO.wipe, List.map_set, updSt, insL, dropS, ins, D.ints]))); done))
  · obtain rfl : i = c.length := by omega
    rw [List.take_length] at hv
    have hv2 : v = clauseD p u c := hv
    rw [← hv2] at hE
    simp (disch := first | omega | decide +kernel) only [D.ints, go_sem, zqa, zqb, zqc, zqd, zqe, ↓reduceIte, reduceCtorEq, zqf, zqg, zqh]
    (repeat' (first | ((first | (refine gsel_split (fun q' => ?_) (fun q' => ?_) <;> (have h' := q') <;> (try simp only [decide_eq_true_eq, decide_eq_false_iff_not, zba, zbb, bne_iff_ne, ne_eq, beq_iff_eq, bne_eq_false_iff_eq, beq_eq_false_iff_ne, zia, zib, zic, zid, zda, zbc, zbd, zbe, gt_iff_lt, ge_iff_le] at h') <;> try (exfalso; omega)) | (have q' := trivial; first | refine hE _ _ ret_ne ?_ | refine hE _ _ exit_ne ?_)) <;> (try simp (disch := first | omega | decide +kernel) only [q', D.ints, go_sem, zqa, zqb, zqc, zqd, zqe, ↓reduceIte, reduceCtorEq, zqf, zqg, zqh]) <;> clear q') | (refine hN _ ?_ ?_ Wk.kk) | (with_reducible refine And.intro ?_ ?_) | (with_reducible omega) | (exact ok_ints) | (exact cells_ints) | (exact no_mem) | (with_reducible exact plain_ints) | (refine le_maxLen ?_; omega) | (refine List.forall_mem_cons.2 ⟨?_, ?_⟩) | (simp only [go_sem, zqc, zqb, List.mem_cons, List.not_mem_nil, forall_eq]; done)))
    all_goals (first | omega | exact ret_s1 [] rfl)
end
end Abs.Y

namespace Abs

def szL {α : Type} (f : α → Int → Int) : List α → Int → Int
  | [], left => left
  | x :: r, left => if f x left < 0 then -1 else szL f r (f x left)
def szS {α : Type} (f : α → Int → Int) (a : List α) (left : Int) : Int := if left - a.length < 0 then -1 else szL f a (left - a.length)
def szI (a : List Int) (left : Int) : Int := if left - a.length < 0 then -1 else left - a.length
def SzF {α : Type} (f : α → Int → Int) : Prop := ∀ x left, 0 ≤ left → f x left = -1 ∨ (0 ≤ f x left ∧ f x left ≤ left)
theorem szI_szF : SzF szI := fun x left h => by unfold szI; split <;> omega
theorem szL_szF {α : Type} {f : α → Int → Int} (hf : SzF f) : ∀ (l : List α) (left : Int), 0 ≤ left → szL f l left = -1 ∨ (0 ≤ szL f l left ∧ szL f l left ≤ left)
  | [], left, h => .inr ⟨h, Int.le_refl _⟩
  | x :: r, left, h => by
    simp only [szL]
    split
    · exact .inl rfl
    · rcases hf x left h with h1 | h1
      · omega
      · have := szL_szF hf r (f x left) h1.1; omega
theorem szS_szF {α : Type} {f : α → Int → Int} (hf : SzF f) : SzF (szS f) := fun x left h => by
  unfold szS
  split
  · exact .inl rfl
  · have := szL_szF hf x (left - x.length) (by omega); omega
theorem szL_each {α : Type} {f : α → Int → Int} (hf : SzF f) : ∀ (l : List α) (left : Int), 0 ≤ left → 0 ≤ szL f l left → ∀ x ∈ l, ∃ y, 0 ≤ y ∧ y ≤ left ∧ 0 ≤ f x y
  | [], _, _, _, x, hx => by cases hx
  | y :: r, left, h, h2, x, hx => by
    simp only [szL] at h2
    split at h2
    · omega
    · rename_i h3
      rcases List.mem_cons.1 hx with rfl | hx
      · exact ⟨left, h, Int.le_refl _, by omega⟩
      · obtain ⟨z, h4, h5, h6⟩ := szL_each hf r (f y left) (by omega) h2 x hx
        rcases hf y left h with h7 | h7
        · omega
        · exact ⟨z, h4, by omega, h6⟩
theorem szS_len {α : Type} {f : α → Int → Int} {a : List α} {left : Int} (h : 0 ≤ szS f a left) : (a.length : Int) ≤ left := by
  unfold szS at h; split at h <;> omega
theorem szS_each {α : Type} {f : α → Int → Int} (hf : SzF f) {a : List α} {left : Int} (h : 0 ≤ szS f a left) : ∀ x ∈ a, ∃ y, 0 ≤ y ∧ y ≤ left ∧ 0 ≤ f x y := by
  have hl := szS_len h
  unfold szS at h
  split at h
  · omega
  · intro x hx
    obtain ⟨y, h1, h2, h3⟩ := szL_each hf a _ (by omega) h x hx
    exact ⟨y, h1, by omega, h3⟩
theorem szI_len {a : List Int} {left : Int} (h : 0 ≤ szI a left) : (a.length : Int) ≤ left := by
  unfold szI at h; split at h <;> omega
end Abs

namespace Abs.Y
open Go Go.Proofs Abs
open Nat renaming reduceEqDiff → zqa, reduceLT → zqb, reduceAdd → zqc, reduceMul → zqd, reduceSub → zqe, reduceLeDiff → zqf, reduceSubDiff → zqg, reduceBEq → zqh
open Bool renaming not_eq_true' → zba, not_eq_false' → zbb, and_eq_true → zbc, or_eq_true → zbd, or_eq_false_iff → zbe
open Int renaming ofNat_lt → zia, ofNat_le → zib, not_lt → zic, not_le → zid
open Decidable renaming not_not → zda
set_option maxRecDepth 100000

theorem szIntS_ok (a : List Int) (left : Int) (hl : a.length ≤ 9223372036854775807) (h1 : 0 ≤ left ∧ left ≤ 1048576) : Ctr Try.prog 65 [.ints a, .int .i64 left] false (.d (.int .i64 (szI a left))) [] := by
  refine Ctr.of (n := 12) (rs := [.tmp 4]) Try.func65 rfl rfl Try.ntmps65 rfl rfl (by kernel_rfl) Try.checked.mixed ?_
  simp (disch := first | omega | decide +kernel) only [D.ints, go_sem, zqa, zqb, zqc, zqd, zqe, ↓reduceIte, reduceCtorEq, zqf, zqg, zqh]
  (repeat' (first | ((first | (refine gsel_split (fun q' => ?_) (fun q' => ?_) <;> (have h' := q') <;> (try simp only [decide_eq_true_eq, decide_eq_false_iff_not, zba, zbb, bne_iff_ne, ne_eq, beq_iff_eq, bne_eq_false_iff_eq, beq_eq_false_iff_ne, zia, zib, zic, zid, zda, zbc, zbd, zbe, gt_iff_lt, ge_iff_le] at h')) | (have q' := trivial; first | refine hE _ _ ret_ne ?_ | refine hE _ _ exit_ne ?_)) <;> (try simp (disch := first | omega | decide +kernel) only [q', go_sem, zqa, zqb, zqc, zqd, zqe, ↓reduceIte, reduceCtorEq, zqf, zqg, zqh]) <;> clear q') | (refine hN _ ?_ ?_ Wk.kk) | (with_reducible refine And.intro ?_ ?_) | (with_reducible omega) | (exact ok_ints) | (exact cells_ints) | (exact no_mem) | (with_reducible exact plain_ints) | (refine le_maxLen ?_; omega) | (refine List.forall_mem_cons.2 ⟨?_, ?_⟩) | (simp only [go_sem, zqc, zqb, List.mem_cons, List.not_mem_nil, forall_eq]; done)))
  · simp [szI, h', D.plain]
  · simp [szI, show ¬ (left - a.length < 0) by omega]
theorem toIntS_ok (a : List Int) (hl : a.length ≤ 4294967296) : Ctr Try.prog 69 [.ints a] false (.sl 0) [(0, .arr 3 1 (a.map (.int .i64)))] := by
  refine Ctr.of (n := 22) (rs := [.tmp 2]) Try.func69 rfl rfl Try.ntmps69 rfl rfl (by kernel_rfl) Try.checked.mixed ?_
  simp (disch := first | omega | decide +kernel) only [D.ints, go_sem, zqa, zqb, zqc, zqd, zqe, ↓reduceIte, reduceCtorEq, zqf, zqg, zqh]
  refine ⟨by omega, ?_⟩
  rw [show List.replicate a.length (D.int .i64 0) = (List.replicate a.length (0 : Int)).map (D.int .i64) by simp]
  refine Ok.loopN [20, 19, 18, 17, 16, 15, 14, 13, 12, 11, 10, 9, 8, 7, 6, 5, 4, 1] (fun i _ => [(4, .d (.int .i64 (i : Nat)))]) (fun _ (cur : List Int) => [(7, .arr 3 1 (List.map (D.int .i64) cur))]) a.length
    (fun i cur => cur.length = a.length ∧ ∀ j, j < i → cur.getD j 0 = a.getD j 0) (List.replicate a.length 0) ⟨by simp, by simp⟩ (Wk.kk) ?_
  rintro R i cur hN hE hi ⟨hcl, hcur⟩
  simp (disch := first | omega | decide +kernel) only [go_sem, zqa, zqb, zqc, zqd, zqe, ↓reduceIte, reduceCtorEq, zqf, zqg, zqh]
  (repeat' (first | ((first | (refine gsel_split (fun q' => ?_) (fun q' => ?_) <;> (have h' := q') <;> (try simp only [decide_eq_true_eq, decide_eq_false_iff_not, zba, zbb, bne_iff_ne, ne_eq, beq_iff_eq, bne_eq_false_iff_eq, beq_eq_false_iff_ne, zia, zib, zic, zid, zda, zbc, zbd, zbe, gt_iff_lt, ge_iff_le] at h')) | (have q' := trivial; first | refine hE _ _ ret_ne ?_ | refine hE _ _ exit_ne ?_)) <;> (try simp (disch := first | omega | decide +kernel) only [q', go_sem, zqa, zqb, zqc, zqd, zqe, ↓reduceIte, reduceCtorEq, zqf, zqg, zqh]) <;> clear q') | (refine hN _ ?_ ?_ Wk.kk) | (with_reducible refine And.intro ?_ ?_) | (with_reducible omega) | (exact ok_ints) | (exact cells_ints) | (exact no_mem) | (with_reducible exact plain_ints) | (refine le_maxLen ?_; omega) | (refine List.forall_mem_cons.2 ⟨?_, ?_⟩) | (simp only [go_sem, zqc, zqb, List.mem_cons, List.not_mem_nil, forall_eq]; done)))
  · refine hN (cur.set i (a.getD i 0)) _ h' ⟨by simp [hcl], fun j hj => ?_⟩ (Wk.kk)
    rw [set_getDz 0 _ _ _ _ (by omega)]
    by_cases e : j = i
    · subst e; simp
    · rw [if_neg e]; exact hcur j (by omega)
  · obtain rfl : cur = a := ext_getDz 0 hcl fun j hj => hcur j (by omega)
    exact ret_sl 7 rfl rfl plain_ints
theorem eqIntS_ok (a b : List Int) (hl : a.length ≤ 4294967296) : Ctr Try.prog 78 [.ints a, .ints b] false (.d (.bool (decide (a = b)))) [] := by
  refine Ctr.of (n := 26) (rs := [.tmp 4]) Try.func78 rfl rfl Try.ntmps78 rfl rfl (by kernel_rfl) Try.checked.mixed ?_
  simp (disch := first | omega | decide +kernel) only [D.ints, go_sem, zqa, zqb, zqc, zqd, zqe, ↓reduceIte, reduceCtorEq, zqf, zqg, zqh]
  (repeat' (first | ((first | (refine gsel_split (fun q' => ?_) (fun q' => ?_) <;> (have h' := q') <;> (try simp only [decide_eq_true_eq, decide_eq_false_iff_not, zba, zbb, bne_iff_ne, ne_eq, beq_iff_eq, bne_eq_false_iff_eq, beq_eq_false_iff_ne, zia, zib, zic, zid, zda, zbc, zbd, zbe, gt_iff_lt, ge_iff_le] at h')) | (have q' := trivial; first | refine hE _ _ ret_ne ?_ | refine hE _ _ exit_ne ?_)) <;> (try simp (disch := first | omega | decide +kernel) only [q', go_sem, zqa, zqb, zqc, zqd, zqe, ↓reduceIte, reduceCtorEq, zqf, zqg, zqh]) <;> clear q') | (refine hN _ ?_ ?_ Wk.kk) | (with_reducible refine And.intro ?_ ?_) | (with_reducible omega) | (exact ok_ints) | (exact cells_ints) | (exact no_mem) | (with_reducible exact plain_ints) | (refine le_maxLen ?_; omega) | (refine List.forall_mem_cons.2 ⟨?_, ?_⟩) | (simp only [go_sem, zqc, zqb, List.mem_cons, List.not_mem_nil, forall_eq]; done)))
  · have : ¬ a = b := by rintro rfl; simp at h'
    simp [this, D.plain]
  refine Ok.loopC [25, 24, 23, 22, 21, 20, 19, 18, 17, 16, 15, 14, 13, 12, 11, 10, 9, 8, 7, 6, 5, 4, 3, 2] (fun i => [(5, .d (.int .i64 (i : Nat)))]) a.length (fun i => ∀ j, j < i → a.getD j 0 = b.getD j 0) (by simp) (Wk.kk) ?_
  intro R i hN hE hi hI
  simp (disch := first | omega | decide +kernel) only [go_sem, zqa, zqb, zqc, zqd, zqe, ↓reduceIte, reduceCtorEq, zqf, zqg, zqh]
  (repeat' (first | ((first | (refine gsel_split (fun q' => ?_) (fun q' => ?_) <;> (have h' := q') <;> (try simp only [decide_eq_true_eq, decide_eq_false_iff_not, zba, zbb, bne_iff_ne, ne_eq, beq_iff_eq, bne_eq_false_iff_eq, beq_eq_false_iff_ne, zia, zib, zic, zid, zda, zbc, zbd, zbe, gt_iff_lt, ge_iff_le] at h')) | (have q' := trivial; first | refine hE _ _ ret_ne ?_ | refine hE _ _ exit_ne ?_)) <;> (try simp (disch := first | omega | decide +kernel) only [q', go_sem, zqa, zqb, zqc, zqd, zqe, ↓reduceIte, reduceCtorEq, zqf, zqg, zqh]) <;> clear q') | (refine hN _ ?_ ?_ Wk.kk) | (with_reducible refine And.intro ?_ ?_) | (with_reducible omega) | (exact ok_ints) | (exact cells_ints) | (exact no_mem) | (with_reducible exact plain_ints) | (refine le_maxLen ?_; omega) | (refine List.forall_mem_cons.2 ⟨?_, ?_⟩) | (simp only [go_sem, zqc, zqb, List.mem_cons, List.not_mem_nil, forall_eq]; done)))
  · rename_i h1 h2
    have : ¬ a = b := by rintro rfl; exact h' rfl
    simp [this, D.plain]
  · exact all_succ hI h'
  · rename_i h1
    have : a = b := ext_getDz 0 (by omega) fun j hj => hI j (by omega)
    simp [this, D.plain]

theorem szIntSS_ok (a : List (List Int)) (left : Int) (hl : a.length ≤ 9223372036854775807) (hx : ∀ x ∈ a, x.length ≤ 9223372036854775807) (h1 : 0 ≤ left ∧ left ≤ 1048576) : Ctr Try.prog 24 [.slice (a.map D.ints), .int .i64 left] false (.d (.int .i64 (szS szI a left))) [] := by
  refine Ctr.of (n := 27) (rs := [.tmp 4]) Try.func24 rfl rfl Try.ntmps24 rfl rfl (by kernel_rfl) Try.checked.mixed ?_
  simp (disch := first | omega | decide +kernel) only [go_sem, zqa, zqb, zqc, zqd, zqe, ↓reduceIte, reduceCtorEq, zqf, zqg, zqh]
  (repeat' (first | ((first | (refine gsel_split (fun q' => ?_) (fun q' => ?_) <;> (have h' := q') <;> (try simp only [decide_eq_true_eq, decide_eq_false_iff_not, zba, zbb, bne_iff_ne, ne_eq, beq_iff_eq, bne_eq_false_iff_eq, beq_eq_false_iff_ne, zia, zib, zic, zid, zda, zbc, zbd, zbe, gt_iff_lt, ge_iff_le] at h')) | (have q' := trivial; first | refine hE _ _ ret_ne ?_ | refine hE _ _ exit_ne ?_)) <;> (try simp (disch := first | omega | decide +kernel) only [q', go_sem, zqa, zqb, zqc, zqd, zqe, ↓reduceIte, reduceCtorEq, zqf, zqg, zqh]) <;> clear q') | (refine hN _ ?_ ?_ Wk.kk) | (with_reducible refine And.intro ?_ ?_) | (with_reducible omega) | (exact ok_ints) | (exact cells_ints) | (exact no_mem) | (with_reducible exact plain_ints) | (refine le_maxLen ?_; omega) | (refine List.forall_mem_cons.2 ⟨?_, ?_⟩) | (simp only [go_sem, zqc, zqb, List.mem_cons, List.not_mem_nil, forall_eq]; done)))
  · simp [szS, h', D.plain]
  rw [szS, if_neg (by omega)]
  refine Ok.loopN [25, 24, 23, 22, 21, 20, 19, 18, 17, 16, 15, 14, 13, 12, 11, 10, 9, 8, 7, 6, 5, 4, 3, 2, 1] (fun i l => [(5, .d (.int .i64 (i : Nat))), (1, .d (.int .i64 l))]) (fun _ _ => []) a.length
    (fun i (l : Int) => 0 ≤ l ∧ l ≤ 1048576 ∧ szL szI a (left - a.length) = szL szI (a.drop i) l) (left - a.length) ⟨by omega, by omega, by simp⟩ (Wk.kk) ?_
  rintro R i l hN hE hi ⟨h3, h4, h5⟩
  simp (disch := first | omega | decide +kernel) only [go_sem, zqa, zqb, zqc, zqd, zqe, ↓reduceIte, reduceCtorEq, zqf, zqg, zqh]
  by_cases hlt : i < a.length
  · have he := hx _ (getD_mem (z := ([] : List Int)) hlt)
    have hf := szI_szF (a.getD i ([] : List Int)) l h3
    rw [drop_cons ([] : List Int) a i hlt, szL] at h5
    have hc := szIntS_ok (a.getD i []) l he ⟨h3, h4⟩
    (repeat' (first | ((first | (refine gsel_split (fun q' => ?_) (fun q' => ?_) <;> (have h' := q') <;> (try simp only [decide_eq_true_eq, decide_eq_false_iff_not, zba, zbb, bne_iff_ne, ne_eq, beq_iff_eq, bne_eq_false_iff_eq, beq_eq_false_iff_ne, zia, zib, zic, zid, zda, zbc, zbd, zbe, gt_iff_lt, ge_iff_le] at h')) | (have q' := trivial; first | refine callX_new (hc) rfl (by decide) ?_ | refine callY_new (hc) rfl ?_ | refine hE _ _ ret_ne ?_ | refine hE _ _ exit_ne ?_)) <;> (try simp (disch := first | omega | decide +kernel) only [q', go_sem, zqa, zqb, zqc, zqd, zqe, ↓reduceIte, reduceCtorEq, zqf, zqg, zqh]) <;> clear q') | (refine hN _ ?_ ?_ Wk.kk) | (with_reducible refine And.intro ?_ ?_) | (with_reducible omega) | (exact ok_ints) | (exact cells_ints) | (exact no_mem) | (with_reducible exact plain_ints) | (refine le_maxLen ?_; omega) | (refine List.forall_mem_cons.2 ⟨?_, ?_⟩) | (simp only [go_sem, zqc, zqb, List.mem_cons, List.not_mem_nil, forall_eq]; done)))
    · rw [h5, if_pos h']
    · rw [if_neg (by omega)] at h5
      exact hN _ _ hlt ⟨by omega, by omega, h5⟩ (Wk.kk)
  · rw [List.drop_eq_nil_of_le (by omega), szL] at h5
    (repeat' (first | ((first | (refine gsel_split (fun q' => ?_) (fun q' => ?_) <;> (have h' := q') <;> (try simp only [decide_eq_true_eq, decide_eq_false_iff_not, zba, zbb, bne_iff_ne, ne_eq, beq_iff_eq, bne_eq_false_iff_eq, beq_eq_false_iff_ne, zia, zib, zic, zid, zda, zbc, zbd, zbe, gt_iff_lt, ge_iff_le] at h')) | (have q' := trivial; first | refine hE _ _ ret_ne ?_ | refine hE _ _ exit_ne ?_)) <;> (try simp (disch := first | omega | decide +kernel) only [q', go_sem, zqa, zqb, zqc, zqd, zqe, ↓reduceIte, reduceCtorEq, zqf, zqg, zqh]) <;> clear q') | (refine hN _ ?_ ?_ Wk.kk) | (with_reducible refine And.intro ?_ ?_) | (with_reducible omega) | (exact ok_ints) | (exact cells_ints) | (exact no_mem) | (with_reducible exact plain_ints) | (refine le_maxLen ?_; omega) | (refine List.forall_mem_cons.2 ⟨?_, ?_⟩) | (simp only [go_sem, zqc, zqb, List.mem_cons, List.not_mem_nil, forall_eq]; done)))
    · rw [h5]
theorem toIntSS_ok (a : List (List Int)) (hl : a.length ≤ 4294967296) (hx : ∀ x ∈ a, x.length ≤ 4294967296) : Ctr Try.prog 31 [.slice (a.map D.ints)] true (.sl 0) [(0, .arr 34 1 (a.map D.ints))] := by
  refine Ctr.of (n := 23) (rs := [.tmp 2]) Try.func31 rfl rfl Try.ntmps31 rfl rfl (by kernel_rfl) Try.checked.mixed ?_
  simp (disch := first | omega | decide +kernel) only [go_sem, zqa, zqb, zqc, zqd, zqe, ↓reduceIte, reduceCtorEq, zqf, zqg, zqh]
  refine ⟨by omega, ?_⟩
  rw [show List.replicate a.length (D.slice []) = (List.replicate a.length (([] : List Int) : (List Int))).map D.ints by simp [D.ints]]
  refine Ok.loopN [21, 20, 19, 18, 17, 16, 15, 14, 13, 12, 11, 10, 9, 8, 7, 6, 5, 4, 1] (fun i _ => [(4, .d (.int .i64 (i : Nat)))]) (fun _ (cur : List (List Int)) => [(7, .arr 34 1 (List.map D.ints cur))]) a.length
    (fun i cur => cur.length = a.length ∧ ∀ j, j < i → cur.getD j ([] : List Int) = a.getD j ([] : List Int)) (List.replicate a.length ([] : List Int)) ⟨by simp, by simp⟩ (Wk.kk) ?_
  rintro R i cur hN hE hi ⟨hcl, hcur⟩
  simp (disch := first | omega | decide +kernel) only [go_sem, zqa, zqb, zqc, zqd, zqe, ↓reduceIte, reduceCtorEq, zqf, zqg, zqh]
  by_cases hlt : i < a.length
  · have he := hx _ (getD_mem (z := ([] : List Int)) hlt)
    have hlc : i < cur.length := by omega
    have hc := toIntS_ok (a.getD i []) he
    (repeat' (first | ((first | (refine gsel_split (fun q' => ?_) (fun q' => ?_) <;> (have h' := q') <;> (try simp only [decide_eq_true_eq, decide_eq_false_iff_not, zba, zbb, bne_iff_ne, ne_eq, beq_iff_eq, bne_eq_false_iff_eq, beq_eq_false_iff_ne, zia, zib, zic, zid, zda, zbc, zbd, zbe, gt_iff_lt, ge_iff_le] at h')) | (have q' := trivial; first | refine callX_new (hc) rfl (by decide) ?_ | refine callY_new (hc) rfl ?_ | refine callX_shared (hc) rfl (by decide) ?_ | refine callY_shared (hc) rfl ?_ | refine hE _ _ ret_ne ?_ | refine hE _ _ exit_ne ?_)) <;> (try simp (disch := first | omega | decide +kernel) only [q', go_sem, zqa, zqb, zqc, zqd, zqe, ↓reduceIte, reduceCtorEq, zqf, zqg, zqh]) <;> clear q') | (refine hN _ ?_ ?_ Wk.kk) | (with_reducible refine And.intro ?_ ?_) | (with_reducible omega) | (exact ok_ints) | (exact cells_ints) | (exact no_mem) | (with_reducible exact plain_ints) | (refine le_maxLen ?_; omega) | (refine List.forall_mem_cons.2 ⟨?_, ?_⟩) | (simp only [go_sem, zqc, zqb, List.mem_cons, List.not_mem_nil, forall_eq]; done)))
    all_goals (first | (simp [D.ints, D.step, D.cells, D.ok, D.atom, D.isAgg]; done) | skip)
    · refine hN (cur.set i (a.getD i ([] : List Int))) _ hlt ⟨by simp [hcl], fun j hj => ?_⟩ (by refine Wk.auto ?_ ?_ <;> simp [extraK, lk, killL, St.kill, wipeO, wipeS, AV.has, AV.hasL, AO.wipe, List.map_set, updSt, insL, dropS, ins, D.ints])
      rw [set_getDz ([] : List Int) _ _ _ _ hlc]
      by_cases e : j = i
      · subst e; simp
      · rw [if_neg e]; exact hcur j (by omega)
  · (repeat' (first | ((first | (refine gsel_split (fun q' => ?_) (fun q' => ?_) <;> (have h' := q') <;> (try simp only [decide_eq_true_eq, decide_eq_false_iff_not, zba, zbb, bne_iff_ne, ne_eq, beq_iff_eq, bne_eq_false_iff_eq, beq_eq_false_iff_ne, zia, zib, zic, zid, zda, zbc, zbd, zbe, gt_iff_lt, ge_iff_le] at h')) | (have q' := trivial; first | refine hE _ _ ret_ne ?_ | refine hE _ _ exit_ne ?_)) <;> (try simp (disch := first | omega | decide +kernel) only [q', go_sem, zqa, zqb, zqc, zqd, zqe, ↓reduceIte, reduceCtorEq, zqf, zqg, zqh]) <;> clear q') | (refine hN _ ?_ ?_ Wk.kk) | (with_reducible refine And.intro ?_ ?_) | (with_reducible omega) | (exact ok_ints) | (exact cells_ints) | (exact no_mem) | (with_reducible exact plain_ints) | (refine le_maxLen ?_; omega) | (refine List.forall_mem_cons.2 ⟨?_, ?_⟩) | (simp only [go_sem, zqc, zqb, List.mem_cons, List.not_mem_nil, forall_eq]; done)))
    · obtain rfl : cur = a := ext_getDz ([] : List Int) hcl fun j hj => hcur j (by omega)
      exact ret_sls 7 rfl rfl
theorem eqIntSS_ok (a b : List (List Int)) (hl : a.length ≤ 4294967296) (hx : ∀ x ∈ a, x.length ≤ 4294967296) : Ctr Try.prog 33 [.slice (a.map D.ints), .slice (b.map D.ints)] false (.d (.bool (decide (a = b)))) [] := by
  refine Ctr.of (n := 27) (rs := [.tmp 4]) Try.func33 rfl rfl Try.ntmps33 rfl rfl (by kernel_rfl) Try.checked.mixed ?_
  simp (disch := first | omega | decide +kernel) only [go_sem, zqa, zqb, zqc, zqd, zqe, ↓reduceIte, reduceCtorEq, zqf, zqg, zqh]
  (repeat' (first | ((first | (refine gsel_split (fun q' => ?_) (fun q' => ?_) <;> (have h' := q') <;> (try simp only [decide_eq_true_eq, decide_eq_false_iff_not, zba, zbb, bne_iff_ne, ne_eq, beq_iff_eq, bne_eq_false_iff_eq, beq_eq_false_iff_ne, zia, zib, zic, zid, zda, zbc, zbd, zbe, gt_iff_lt, ge_iff_le] at h')) | (have q' := trivial; first | refine hE _ _ ret_ne ?_ | refine hE _ _ exit_ne ?_)) <;> (try simp (disch := first | omega | decide +kernel) only [q', go_sem, zqa, zqb, zqc, zqd, zqe, ↓reduceIte, reduceCtorEq, zqf, zqg, zqh]) <;> clear q') | (refine hN _ ?_ ?_ Wk.kk) | (with_reducible refine And.intro ?_ ?_) | (with_reducible omega) | (exact ok_ints) | (exact cells_ints) | (exact no_mem) | (with_reducible exact plain_ints) | (refine le_maxLen ?_; omega) | (refine List.forall_mem_cons.2 ⟨?_, ?_⟩) | (simp only [go_sem, zqc, zqb, List.mem_cons, List.not_mem_nil, forall_eq]; done)))
  · have : ¬ a = b := by rintro rfl; simp at h'
    simp [this, D.plain]
  refine Ok.loopC [26, 25, 24, 23, 22, 21, 20, 19, 18, 17, 16, 15, 14, 13, 12, 11, 10, 9, 8, 7, 6, 5, 4, 3, 2] (fun i => [(5, .d (.int .i64 (i : Nat)))]) a.length (fun i => ∀ j, j < i → a.getD j ([] : List Int) = b.getD j ([] : List Int)) (by simp) (Wk.kk) ?_
  intro R i hN hE hi hI
  simp (disch := first | omega | decide +kernel) only [go_sem, zqa, zqb, zqc, zqd, zqe, ↓reduceIte, reduceCtorEq, zqf, zqg, zqh]
  by_cases hlt : i < a.length
  · have he := hx _ (getD_mem (z := ([] : List Int)) hlt)
    have hc := eqIntS_ok (a.getD i []) (b.getD i []) he
    (repeat' (first | ((first | (refine gsel_split (fun q' => ?_) (fun q' => ?_) <;> (have h' := q') <;> (try simp only [decide_eq_true_eq, decide_eq_false_iff_not, zba, zbb, bne_iff_ne, ne_eq, beq_iff_eq, bne_eq_false_iff_eq, beq_eq_false_iff_ne, zia, zib, zic, zid, zda, zbc, zbd, zbe, gt_iff_lt, ge_iff_le] at h')) | (have q' := trivial; first | refine callX_new (hc) rfl (by decide) ?_ | refine callY_new (hc) rfl ?_ | refine hE _ _ ret_ne ?_ | refine hE _ _ exit_ne ?_)) <;> (try simp (disch := first | omega | decide +kernel) only [q', go_sem, zqa, zqb, zqc, zqd, zqe, ↓reduceIte, reduceCtorEq, zqf, zqg, zqh]) <;> clear q') | (refine hN _ ?_ ?_ Wk.kk) | (with_reducible refine And.intro ?_ ?_) | (with_reducible omega) | (exact ok_ints) | (exact cells_ints) | (exact no_mem) | (with_reducible exact plain_ints) | (refine le_maxLen ?_; omega) | (refine List.forall_mem_cons.2 ⟨?_, ?_⟩) | (simp only [go_sem, zqc, zqb, List.mem_cons, List.not_mem_nil, forall_eq]; done)))
    · have : ¬ a = b := by rintro rfl; exact h' rfl
      simp [this, D.plain]
    · exact all_succ hI h'
  · (repeat' (first | ((first | (refine gsel_split (fun q' => ?_) (fun q' => ?_) <;> (have h' := q') <;> (try simp only [decide_eq_true_eq, decide_eq_false_iff_not, zba, zbb, bne_iff_ne, ne_eq, beq_iff_eq, bne_eq_false_iff_eq, beq_eq_false_iff_ne, zia, zib, zic, zid, zda, zbc, zbd, zbe, gt_iff_lt, ge_iff_le] at h')) | (have q' := trivial; first | refine hE _ _ ret_ne ?_ | refine hE _ _ exit_ne ?_)) <;> (try simp (disch := first | omega | decide +kernel) only [q', go_sem, zqa, zqb, zqc, zqd, zqe, ↓reduceIte, reduceCtorEq, zqf, zqg, zqh]) <;> clear q') | (refine hN _ ?_ ?_ Wk.kk) | (with_reducible refine And.intro ?_ ?_) | (with_reducible omega) | (exact ok_ints) | (exact cells_ints) | (exact no_mem) | (with_reducible exact plain_ints) | (refine le_maxLen ?_; omega) | (refine List.forall_mem_cons.2 ⟨?_, ?_⟩) | (simp only [go_sem, zqc, zqb, List.mem_cons, List.not_mem_nil, forall_eq]; done)))
    · have : a = b := ext_getDz ([] : List Int) (by omega) fun j hj => hI j (by omega)
      simp [this, D.plain]
end Abs.Y

namespace Abs.Y
open Go Go.Proofs Abs
open Nat renaming reduceEqDiff → zqa, reduceLT → zqb, reduceAdd → zqc, reduceMul → zqd, reduceSub → zqe, reduceLeDiff → zqf, reduceSubDiff → zqg, reduceBEq → zqh
open Bool renaming not_eq_true' → zba, not_eq_false' → zbb, and_eq_true → zbc, or_eq_true → zbd, or_eq_false_iff → zbe
open Int renaming ofNat_lt → zia, ofNat_le → zib, not_lt → zic, not_le → zid
open Decidable renaming not_not → zda
set_option maxRecDepth 100000

theorem map_ex {α : Type} (f : α → D) {es : List D} {R : D → Prop} {Q : α → Prop} (h : ∀ e ∈ es, R e) (hR : ∀ e, R e → ∃ x, e = f x ∧ Q x) : ∃ xs : List α, es = xs.map f ∧ ∀ x ∈ xs, Q x := by
  induction es with
  | nil => exact ⟨[], rfl, by simp⟩
  | cons e r ih =>
    obtain ⟨x, hx, hq⟩ := hR e (h e (by simp))
    obtain ⟨xs, hxs, hqs⟩ := ih fun e he => h e (by simp [he])
    exact ⟨x :: xs, by simp [hx, hxs], fun y hy => by
      rcases List.mem_cons.1 hy with rfl | hy
      · exact hq
      · exact hqs y hy⟩
theorem maxLen_eq : maxLen = 9223372036854775807 := rfl
theorem r_ints {x : D} (h : isSl isI64 x) : ∃ a : List Int, x = D.ints a ∧ a.length ≤ 9223372036854775807 := by
  obtain ⟨es, rfl, hl, he⟩ := h
  obtain ⟨a, rfl, _⟩ := map_ex (D.int .i64) (Q := fun _ => True) he fun e ⟨n, hn, _⟩ => ⟨n, hn, trivial⟩
  exact ⟨a, rfl, by rw [maxLen_eq] at hl; simpa using hl⟩
theorem r_intss {x : D} (h : isSl (isSl isI64) x) : ∃ a : List (List Int), x = .slice (a.map D.ints) ∧ a.length ≤ 9223372036854775807 ∧ ∀ y ∈ a, y.length ≤ 9223372036854775807 := by
  obtain ⟨es, rfl, hl, he⟩ := h
  obtain ⟨a, rfl, ha⟩ := map_ex D.ints he fun e h => r_ints h
  exact ⟨a, rfl, by rw [maxLen_eq] at hl; simpa using hl, ha⟩
end Abs.Y
