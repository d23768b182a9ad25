/- What functions of this program compute, as contracts over plain data, with what the proofs need of them. No condition. -/
import Derived.Test.YtcpflbfcglcjfaaJ5
set_option linter.all false
namespace Abs.Y
open Go Go.Proofs Abs
open Nat renaming reduceEqDiff → zqa, reduceLT → zqb, reduceAdd → zqc, reduceMul → zqd, reduceSub → zqe, reduceLeDiff → zqf, reduceSubDiff → zqg, reduceBEq → zqh
open Bool renaming not_eq_true' → zba, not_eq_false' → zbb, and_eq_true → zbc, or_eq_true → zbd, or_eq_false_iff → zbe
open Int renaming ofNat_lt → zia, ofNat_le → zib, not_lt → zic, not_le → zid
open Decidable renaming not_not → zda
set_option maxRecDepth 100000

def clP (n j i k : Nat) : List Int := [0 - pvar n i j, 0 - pvar n k j]
structure PairF (w : Int) (cs : List (List Int)) (n j : Nat) : Prop where
  n3 : 1 ≤ n ∧ n ≤ 3
  j3 : 1 ≤ j ∧ j ≤ n
  hw : 0 ≤ w ∧ w ≤ 12
  hl : cs.length ≤ 60 ∧ ∀ t, (cs.getD t []).length ≤ 4294967296
  lits : ∀ i k : Nat, 1 ≤ i → i < k → k ≤ n + 1 → Lits w (clP n j i k)
  pl : ∀ i k : Nat, 1 ≤ i → i < k → k ≤ n + 1 → cs.getD (atP n j i k).toNat [] = clP n j i k ∧ idxR (fun t => decide (cs.getD t [] = clP n j i k)) cs.length = atP n j i k
theorem l17Pair_ok {w : Int} {cs : List (List Int)} {n j : Nat} (hF : PairF w cs n j) (i k : Nat) (hik : 1 ≤ i ∧ i < k ∧ k ≤ n + 1) :
    Ctr Try.prog 168 [.agg [.int .i64 w, .slice (cs.map D.ints)], .int .i64 (n : Int), .int .i64 (i : Int), .int .i64 (k : Int), .int .i64 (j : Int)] true (.d (D.pst (hPair w cs n j i k))) [] := by
  have h3 := hF.n3
  have hj := hF.j3
  obtain ⟨e1, e2⟩ := hF.pl i k hik.1 hik.2.1 hik.2.2
  have c1 := l17Var_ok n i j (by omega) (by omega) (by omega)
  have c2 := l17Var_ok n k j (by omega) (by omega) (by omega)
  have b1 : -(1000 : Int) ≤ pvar n i j ∧ pvar n i j ≤ 1000 := by have := pvar_bd (n := n) (i := i) (j := j) (by omega) (by omega) (by omega); unfold pvar; omega
  have b2 : -(1000 : Int) ≤ pvar n k j ∧ pvar n k j ≤ 1000 := by have := pvar_bd (n := n) (i := k) (j := j) (by omega) (by omega) (by omega); unfold pvar; omega
  have c3 := l11PlaceJ_ok cs (clP n j i k) (by have := hF.hl; omega) hF.hl.2 (by simp [clP])
  have c4 := l16OfClause_ok w (clP n j i k) (by simp [clP]) (hF.lits i k hik.1 hik.2.1 hik.2.2)
  unfold hPair
  rw [e1]
  rw [e2] at c3
  unfold clP at c3 c4 ⊢
  generalize pvar n i j = x1 at *
  generalize pvar n k j = x2 at *
  generalize atP n j i k = a at *
  refine Ctr.ofK (n := 32) (rs := [.cell 10 100]) Try.func168 rfl rfl Try.ntmps168 rfl rfl (by kernel_rfl) Try.checked.mixed ?_
  refine Ok.seq (Ok.go ?_)
  simp (disch := first | omega | decide +kernel) only [D.ints, go_sem, zqa, zqb, zqc, zqd, zqe, ↓reduceIte, reduceCtorEq, zqf, zqg, zqh]
  refine Ok.seq (Ok.go ?_)
  simp (disch := first | omega | decide +kernel) only [D.ints, go_sem, zqa, zqb, zqc, zqd, zqe, ↓reduceIte, reduceCtorEq, zqf, zqg, zqh]
  (repeat' (first | ((first | (refine gsel_split (fun q' => ?_) (fun q' => ?_) <;> (have h' := q') <;> (try simp only [decide_eq_true_eq, decide_eq_false_iff_not, zba, zbb, bne_iff_ne, ne_eq, beq_iff_eq, bne_eq_false_iff_eq, beq_eq_false_iff_ne, zia, zib, zic, zid, zda, zbc, zbd, zbe, gt_iff_lt, ge_iff_le] at h')) | (have q' := trivial; first | refine callX_new (c1) rfl (by decide) ?_ | refine callY_new (c1) rfl ?_ | refine callX_new (c2) rfl (by decide) ?_ | refine callY_new (c2) rfl ?_ | refine hE _ _ ret_ne ?_ | refine hE _ _ exit_ne ?_)) <;> (try simp (disch := first | omega | decide +kernel) only [q', D.ints, go_sem, zqa, zqb, zqc, zqd, zqe, ↓reduceIte, reduceCtorEq, zqf, zqg, zqh]) <;> clear q') | (refine hN _ ?_ ?_ Wk.kk) | (with_reducible refine And.intro ?_ ?_) | (with_reducible omega) | (exact ok_ints) | (exact cells_ints) | (exact no_mem) | (with_reducible exact plain_ints) | (refine le_maxLen ?_; omega) | (refine List.forall_mem_cons.2 ⟨?_, ?_⟩) | (simp only [go_sem, zqc, zqb, List.mem_cons, List.not_mem_nil, forall_eq]; done)))
  refine Ok.weak (Wk.frz (j := 22) rfl) ?_
  refine Ok.go ?_
  simp (disch := first | omega | decide +kernel) only [D.ints, go_sem, zqa, zqb, zqc, zqd, zqe, ↓reduceIte, reduceCtorEq, zqf, zqg, zqh]
  (repeat' (first | ((first | (refine gsel_split (fun q' => ?_) (fun q' => ?_) <;> (have h' := q') <;> (try simp only [decide_eq_true_eq, decide_eq_false_iff_not, zba, zbb, bne_iff_ne, ne_eq, beq_iff_eq, bne_eq_false_iff_eq, beq_eq_false_iff_ne, zia, zib, zic, zid, zda, zbc, zbd, zbe, gt_iff_lt, ge_iff_le] at h')) | (have q' := trivial; first | refine callX_new (c3) rfl (by decide) ?_ | refine callY_new (c3) rfl ?_ | refine callX_shared (c4) rfl (by decide) ?_ | refine callY_shared (c4) rfl ?_ | refine hE _ _ ret_ne ?_ | refine hE _ _ exit_ne ?_)) <;> (try simp (disch := first | omega | decide +kernel) only [q', D.ints, go_sem, zqa, zqb, zqc, zqd, zqe, ↓reduceIte, reduceCtorEq, zqf, zqg, zqh]) <;> clear q') | (refine hN _ ?_ ?_ Wk.kk) | (with_reducible refine And.intro ?_ ?_) | (with_reducible omega) | (exact ok_ints) | (exact cells_ints) | (exact no_mem) | (with_reducible exact plain_ints) | (refine le_maxLen ?_; omega) | (refine List.forall_mem_cons.2 ⟨?_, ?_⟩) | (simp only [go_sem, zqc, zqb, List.mem_cons, List.not_mem_nil, forall_eq]; done)))
  all_goals (first | omega | exact ret_cb rfl rfl (by simp only [go_sem]) (by simp only [go_sem, List.length_cons, List.length_nil]) rfl (by simp only [go_sem]))
set_option maxHeartbeats 8000000 in
theorem l17Hole_ok {n j : Nat} (base : List PSt) (hP : PairF ((n : Int) * (n + 1)) (cnfS n) n j) (hF : HoleF ((n : Int) * (n + 1)) (cnfS n) n j base) (hl : base.length ≤ 1000) :
    CtrM Try.prog 79 [.d (.int .i64 (n : Int)), .d (.int .i64 (j : Int)), .sl 0] [(0, .arr 100 6 (base.map D.pst))] [] true (.sl 0)
      [(0, .arr 100 6 ((hM ((n : Int) * (n + 1)) (cnfS n) n j base (n - 1)).map D.pst))] := by
  have h3 := hP.n3
  have hj := hP.j3
  have hw := hP.hw
  have c0 := l17Cnf_ok n (by omega)
  have hp := fun i k h => l17Pair_ok hP i k h
  have hpq : ∀ a b : Nat, 1 ≤ a → a < b → b ≤ n + 1 → (hPair ((n : Int) * (n + 1)) (cnfS n) n j a b).q.co.length = ((n : Int) * (n + 1)).toNat ∧ Bd 1000000 (hPair ((n : Int) * (n + 1)) (cnfS n) n j a b).q := fun a b h1 h2 h3 => by
    obtain ⟨_, h4, h5⟩ := hF.at_ a b (by omega) (by omega) (by omega)
    have := planI_inv ((n : Int) * (n + 1)) ((cnfS n).getD (atP n j a b).toNat [])
    exact ⟨this.2, this.1.mono (by omega)⟩
  have hq1 := fun k h => hF.q1 k h
  have hq2 := fun k i h h' => hF.q2 k i h h'
  have hq3 := fun k h => hF.q3 k h
  clear hP hF
  generalize (n : Int) * (n + 1) = w at *
  generalize cnfS n = cs at *
  have c1 := hp 1 2 (by omega)
  refine CtrM.of (n := 101) (rs := [.tmp 6]) Try.func79 rfl rfl Try.ntmps79 rfl rfl (by kernel_rfl) Try.checked.mixed ?_; intro u
  simp (disch := first | omega | decide +kernel) only [D.ints, go_sem, zqa, zqb, zqc, zqd, zqe, ↓reduceIte, reduceCtorEq, zqf, zqg, zqh]
  (repeat' (first | ((first | (refine gsel_split (fun q' => ?_) (fun q' => ?_) <;> (have h' := q') <;> (try simp only [decide_eq_true_eq, decide_eq_false_iff_not, zba, zbb, bne_iff_ne, ne_eq, beq_iff_eq, bne_eq_false_iff_eq, beq_eq_false_iff_ne, zia, zib, zic, zid, zda, zbc, zbd, zbe, gt_iff_lt, ge_iff_le] at h')) | (have q' := trivial; first | refine callX_shared (c0) rfl (by decide) ?_ | refine callY_shared (c0) rfl ?_ | refine callX_shared (c1) rfl (by decide) ?_ | refine callY_shared (c1) rfl ?_ | refine hE _ _ ret_ne ?_ | refine hE _ _ exit_ne ?_)) <;> (try simp (disch := first | omega | decide +kernel) only [q', D.ints, go_sem, zqa, zqb, zqc, zqd, zqe, ↓reduceIte, reduceCtorEq, zqf, zqg, zqh]) <;> clear q') | (refine hN _ ?_ ?_ Wk.kk) | (with_reducible refine And.intro ?_ ?_) | (with_reducible omega) | (exact ok_ints) | (exact cells_ints) | (exact no_mem) | (with_reducible exact plain_ints) | (refine le_maxLen ?_; omega) | (refine List.forall_mem_cons.2 ⟨?_, ?_⟩) | (simp only [go_sem, zqc, zqb, List.mem_cons, List.not_mem_nil, forall_eq]; done)))
  · rw [ok_agg]; simp [D.atom, D.ints]
  refine Ok.loopN [100, 99, 98, 97, 96, 95, 94, 93, 92, 91, 90, 89, 88, 87, 86, 85, 84, 83, 82, 81, 80, 79, 78, 77, 76, 75, 74, 73, 72, 71, 70, 69, 68, 67, 66, 65, 64, 63, 62, 61, 60, 59, 58, 57, 56, 55, 54, 53, 52, 51, 50, 49, 48, 47, 46, 45, 44, 43, 42, 41, 40, 39, 38, 37, 36, 35, 34, 33, 32, 31, 30, 29, 28, 27, 26, 25, 24, 23, 22, 21, 20, 19, 18, 17, 16, 15, 14, 13, 12, 11, 10, 9, 8, 6, 5, 4, 3, 2] (fun i _ => [(8, .d (.int .i64 (3 + (i : Nat)))), (2, .sl 0)]) (fun _ (L : List PSt) => [(0, .arr 100 6 (L.map D.pst))]) (n - 1)
    (fun i L => L = hM w cs n j base i) (base ++ [hPair w cs n j 1 2]) rfl (by refine Wk.auto ?_ ?_ <;> simp [extraK, lk, killL, St.kill, wipeO, wipeS, AV.has, AV.hasL, AO.wipe, List.map_set, updSt, insL, dropS, ins, List.map_append, List.map_cons, List.map_nil, D.ints]) ?_
  rintro R i L hN hE hi hinv
  have hML := hM_len (u := w) (cs := cs) (n := n) (j := j) base i
  have hMP := hM_pos (u := w) (cs := cs) (n := n) (j := j) base i
  have hi3 : i * (2 * i + 4) ≤ 100 := by
    have : i ≤ 2 := by omega
    rcases (by omega : i = 0 ∨ i = 1 ∨ i = 2) with rfl | rfl | rfl <;> decide
  rw [← hinv] at hML hMP
  by_cases hlt : i < n - 1
  · have q1 := hq1 i (by omega)
    have hq2 := fun k h => hq2 i k (by omega) h
    have hq3 := hq3 i (by omega)
    have hMs : hM w cs n j base (i + 1) = hD (i + 2) (hI w cs n j (i + 3) (i + 2) (hS (i + 1) (hM w cs n j base i))) := rfl
    rw [← hinv] at q1 hq2 hq3 hMs
    have hb1 : L.length ≤ 1200 := by omega
    have c2 := l16Scale_ok (k := (i : Int) + 1) (by omega) (q := lastq L) (okq_len q1 hw.2) q1.2 (by omega) (by omega)
    have hel : el (L.map D.pst) (L.length - 1) = D.pst (L.getD (L.length - 1) PSt.z) := el_pst (by omega)
    have e1 : ((L.length : Int) - 1).toNat = L.length - 1 := by omega
    have e2 : 3 + (i : Int) - 2 = i + 1 := by omega
    have hSe : hS (i + 1) L = L ++ [⟨zipP (fun a _ => ((i : Int) + 1) * a) (lastq L) (lastq L), 5, (L.length : Int) - 1, 0, (i : Int) + 1⟩] := rfl
    have c3 := l17Add_ok L 5 ((L.length : Int) - 1) 0 ((i : Int) + 1) (zipP (fun a _ => ((i : Int) + 1) * a) (lastq L) (lastq L)) (by omega)
    have hlq : lastq L = (L.getD (L.length - 1) PSt.z).q := rfl
    generalize zipP (fun a _ => ((i : Int) + 1) * a) (lastq L) (lastq L) = z0 at *
    rw [hlq] at c2
    generalize hS ((i : Int) + 1) L = L1 at *
    clear q1 hML hinv
    simp (disch := first | omega | decide +kernel) only [D.ints, e1, e2, hel, go_sem, zqa, zqb, zqc, zqd, zqe, ↓reduceIte, reduceCtorEq, zqf, zqg, zqh]
    (repeat' (first | ((first | (refine gsel_split (fun q' => ?_) (fun q' => ?_) <;> (have h' := q') <;> (try simp only [decide_eq_true_eq, decide_eq_false_iff_not, zba, zbb, bne_iff_ne, ne_eq, beq_iff_eq, bne_eq_false_iff_eq, beq_eq_false_iff_ne, zia, zib, zic, zid, zda, zbc, zbd, zbe, gt_iff_lt, ge_iff_le] at h')) | (have q' := trivial; first | refine callX_shared (c2) rfl (by decide) ?_ | refine callY_shared (c2) rfl ?_ | refine hE _ _ ret_ne ?_ | refine hE _ _ exit_ne ?_)) <;> (try simp (disch := first | omega | decide +kernel) only [q', D.ints, e1, e2, hel, go_sem, zqa, zqb, zqc, zqd, zqe, ↓reduceIte, reduceCtorEq, zqf, zqg, zqh]) <;> clear q') | (refine hN _ ?_ ?_ Wk.kk) | (with_reducible refine And.intro ?_ ?_) | (with_reducible omega) | (exact ok_ints) | (exact cells_ints) | (exact no_mem) | (with_reducible exact plain_ints) | (refine le_maxLen ?_; omega) | (refine List.forall_mem_cons.2 ⟨?_, ?_⟩) | (simp only [go_sem, zqc, zqb, List.mem_cons, List.not_mem_nil, forall_eq]; done)))
    refine callX_mut [0] [0] [0] c3 ⟨.inl rfl, .inl rfl, .inl rfl, .inl rfl, .inl rfl, .inl rfl, trivial⟩ ⟨rfl, trivial⟩ rfl (by simp [dstB]) ?_
    simp (disch := first | omega | decide +kernel) only [D.ints, go_sem, zqa, zqb, zqc, zqd, zqe, ↓reduceIte, reduceCtorEq, zqf, zqg, zqh]
    refine Ok.loopNO [100, 99, 98, 97, 96, 95, 94, 93, 92, 91, 90, 89, 88, 87, 86, 85, 84, 83, 82, 81, 80, 79, 78, 77, 76, 75, 74, 73, 72, 71, 70, 69, 68, 67, 66, 65, 64, 63, 62, 61, 60, 59, 58, 57, 56, 55, 54, 53, 52, 51, 50, 49, 48, 47, 46, 45, 44, 43, 42, 41, 40, 39, 38, 37, 36, 35, 34, 33, 32, 31, 30, 29, 28, 27, 26, 25, 24, 23, 22, 21, 20, 19, 18, 17, 16, 15, 14, 13, 12, 11, 10, 9, 6, 5, 4, 3, 2] (fun k _ => [(9, .d (.int .i64 (1 + (k : Nat)))), (2, .sl 0)]) (fun _ (M : List PSt) => [(0, .arr 100 6 (M.map D.pst))]) (i + 2)
      (fun k M => M = hI w cs n j ((i : Int) + 3) k L1) L1 rfl (by rw [hSe]; exact (by refine Wk.auto ?_ ?_ <;> simp [extraK, lk, killL, St.kill, wipeO, wipeS, AV.has, AV.hasL, AO.wipe, List.map_set, updSt, insL, dropS, ins, ])) ?_
    rintro R2 k M hN2 hE2 hk hinv2
    have hlen := hI_len (u := w) (cs := cs) (n := n) (j := j) (m := (i : Int) + 3) k L1
    have hL1 : L1.length = L.length + 1 := by rw [hSe]; simp
    rw [hL1, ← hinv2] at hlen
    have q2 := hq2 k hk
    by_cases hlt2 : k < i + 2
    · have c4 := hp (k + 1) (i + 3) (by omega)
      have hq5 := hpq (k + 1) (i + 3) (by omega) (by omega) (by omega)
      have hIs : hI w cs n j ((i : Int) + 3) (k + 1) L1 = M ++ [hPair w cs n j ((k : Int) + 1) ((i : Int) + 3), ⟨addP (lastq M) (hPair w cs n j ((k : Int) + 1) ((i : Int) + 3)).q, 4, (M.length : Int) - 1, M.length, 0⟩] := by rw [hI, ← hinv2]
      rw [← hinv2] at q2
      rw [show ((k + 1 : Nat) : Int) = (k : Int) + 1 by omega, show ((i + 3 : Nat) : Int) = (i : Int) + 3 by omega] at c4 hq5
      generalize hPair w cs n j ((k : Int) + 1) ((i : Int) + 3) = P0 at *
      rw [show (k : Int) + 1 = 1 + k by omega, show (i : Int) + 3 = 3 + i by omega] at c4
      have hm1 : el (M.map D.pst ++ [D.pst P0]) (M.length - 1) = D.pst (M.getD (M.length - 1) PSt.z) := by rw [show M.map D.pst ++ [D.pst P0] = (M ++ [P0]).map D.pst by simp, el_pst (by simp; omega), getD_app, if_pos (by omega)]
      have hm2 : el (M.map D.pst ++ [D.pst P0]) M.length = D.pst P0 := by rw [show M.map D.pst ++ [D.pst P0] = (M ++ [P0]).map D.pst by simp, el_pst (by simp), getD_app, if_neg (by omega), Nat.sub_self]; rfl
      have e3 : ((M.length : Int) - 1).toNat = M.length - 1 := by omega
      have e4 : (M.length : Int) - 1 + 1 = M.length := by omega
      have c5 := l16Add_ok (q := lastq M) (r := P0.q) (okq_len q2 hw.2) (by rw [q2.1, hq5.1]; exact Nat.le_refl _) q2.2 hq5.2 (by omega) (by omega)
      have c6 := l17Add_ok (M ++ [P0]) 4 ((M.length : Int) - 1) M.length 0 (addP (lastq M) P0.q) (by simp; omega)
      have hlq2 : lastq M = (M.getD (M.length - 1) PSt.z).q := rfl
      generalize addP (lastq M) P0.q = z1 at *
      rw [hlq2] at c5
      have hap : ∀ L : List PSt, L.map D.pst ++ [D.pst P0] = (L ++ [P0]).map D.pst := fun L => by simp
      clear hp hpq hq2 hq3 hMs hSe c2 c3 c0 c1 q2
      rw [← hap M] at c6
      refine Ok.seq (Ok.go ?_)
      simp (disch := first | omega | decide +kernel) only [D.ints, go_sem, zqa, zqb, zqc, zqd, zqe, ↓reduceIte, reduceCtorEq, zqf, zqg, zqh]
      (repeat' (first | ((first | (refine gsel_split (fun q' => ?_) (fun q' => ?_) <;> (have h' := q') <;> (try simp only [decide_eq_true_eq, decide_eq_false_iff_not, zba, zbb, bne_iff_ne, ne_eq, beq_iff_eq, bne_eq_false_iff_eq, beq_eq_false_iff_ne, zia, zib, zic, zid, zda, zbc, zbd, zbe, gt_iff_lt, ge_iff_le] at h') <;> try (exfalso; omega)) | (have q' := trivial; first | refine hE _ _ ret_ne ?_ | refine hE _ _ exit_ne ?_)) <;> (try simp (disch := first | omega | decide +kernel) only [q', go_sem, zqa, zqb, zqc, zqd, zqe, ↓reduceIte, reduceCtorEq, zqf, zqg, zqh]) <;> clear q') | (refine hN _ ?_ ?_ Wk.kk) | (with_reducible refine And.intro ?_ ?_) | (with_reducible omega) | (exact ok_ints) | (exact cells_ints) | (exact no_mem) | (with_reducible exact plain_ints) | (refine le_maxLen ?_; omega) | (refine List.forall_mem_cons.2 ⟨?_, ?_⟩) | (simp only [go_sem, zqc, zqb, List.mem_cons, List.not_mem_nil, forall_eq]; done)))
      refine Ok.seq (Ok.block (Ok.seq (Ok.go ?_)))
      simp (disch := first | omega | decide +kernel) only [D.ints, go_sem, zqa, zqb, zqc, zqd, zqe, ↓reduceIte, reduceCtorEq, zqf, zqg, zqh]
      refine Ok.seq (Ok.go ?_)
      simp (disch := first | omega | decide +kernel) only [D.ints, go_sem, zqa, zqb, zqc, zqd, zqe, ↓reduceIte, reduceCtorEq, zqf, zqg, zqh]
      (repeat' (first | ((first | (refine gsel_split (fun q' => ?_) (fun q' => ?_) <;> (have h' := q') <;> (try simp only [decide_eq_true_eq, decide_eq_false_iff_not, zba, zbb, bne_iff_ne, ne_eq, beq_iff_eq, bne_eq_false_iff_eq, beq_eq_false_iff_ne, zia, zib, zic, zid, zda, zbc, zbd, zbe, gt_iff_lt, ge_iff_le] at h')) | (have q' := trivial; first | refine callX_shared (c4) rfl (by decide) ?_ | refine callY_shared (c4) rfl ?_ | refine hE _ _ ret_ne ?_ | refine hE _ _ exit_ne ?_)) <;> (try simp (disch := first | omega | decide +kernel) only [q', D.ints, go_sem, zqa, zqb, zqc, zqd, zqe, ↓reduceIte, reduceCtorEq, zqf, zqg, zqh]) <;> clear q') | (refine hN _ ?_ ?_ Wk.kk) | (with_reducible refine And.intro ?_ ?_) | (with_reducible omega) | (exact ok_ints) | (exact cells_ints) | (exact no_mem) | (with_reducible exact plain_ints) | (refine le_maxLen ?_; omega) | (refine List.forall_mem_cons.2 ⟨?_, ?_⟩) | (simp only [go_sem, zqc, zqb, List.mem_cons, List.not_mem_nil, forall_eq]; done)))
      all_goals first | (rw [ok_agg]; simp [D.atom, D.ints]; done) | skip
      refine Ok.reg7 [true, true, true, true, true, true, true, true, true, true, true, true, true, true, true, true, false, false] (by decide +kernel) ?_
      simp (disch := first | omega | decide +kernel) only [D.ints, e3, e4, hm1, hm2, Int.toNat_natCast, go_sem, zqa, zqb, zqc, zqd, zqe, ↓reduceIte, reduceCtorEq, zqf, zqg, zqh]
      (repeat' (first | ((first | (refine gsel_split (fun q' => ?_) (fun q' => ?_) <;> (have h' := q') <;> (try simp only [decide_eq_true_eq, decide_eq_false_iff_not, zba, zbb, bne_iff_ne, ne_eq, beq_iff_eq, bne_eq_false_iff_eq, beq_eq_false_iff_ne, zia, zib, zic, zid, zda, zbc, zbd, zbe, gt_iff_lt, ge_iff_le] at h')) | (have q' := trivial; first | refine callX_shared (c5) rfl (by decide) ?_ | refine callY_shared (c5) rfl ?_ | refine hE _ _ ret_ne ?_ | refine hE _ _ exit_ne ?_)) <;> (try simp (disch := first | omega | decide +kernel) only [q', D.ints, e3, e4, hm1, hm2, Int.toNat_natCast, go_sem, zqa, zqb, zqc, zqd, zqe, ↓reduceIte, reduceCtorEq, zqf, zqg, zqh]) <;> clear q') | (refine hN _ ?_ ?_ Wk.kk) | (with_reducible refine And.intro ?_ ?_) | (with_reducible omega) | (exact ok_ints) | (exact cells_ints) | (exact no_mem) | (with_reducible exact plain_ints) | (refine le_maxLen ?_; omega) | (refine List.forall_mem_cons.2 ⟨?_, ?_⟩) | (simp only [go_sem, zqc, zqb, List.mem_cons, List.not_mem_nil, forall_eq]; done)))
      refine callX_mut [0] [0] [0] c6 ⟨.inl rfl, .inl rfl, .inl rfl, .inl rfl, .inl rfl, .inl rfl, trivial⟩ ⟨rfl, trivial⟩ rfl (by simp [dstB]) ?_
      simp (disch := first | omega | decide +kernel) only [D.ints, go_sem, zqa, zqb, zqc, zqd, zqe, ↓reduceIte, reduceCtorEq, zqf, zqg, zqh]
      refine Ok.go ?_
      simp (disch := first | omega | decide +kernel) only [go_sem, zqa, zqb, zqc, zqd, zqe, ↓reduceIte, reduceCtorEq, zqf, zqg, zqh]
      refine hN2 (M ++ [P0] ++ [⟨z1, 4, (M.length : Int) - 1, M.length, 0⟩]) _ hlt2 (by rw [hIs]; simp) (by refine Wk.auto ?_ ?_ <;> simp [extraK, lk, killL, St.kill, wipeO, wipeS, AV.has, AV.hasL, AO.wipe, List.map_set, updSt, insL, dropS, ins, List.map_append, Int.add_assoc])
    · obtain rfl : k = i + 2 := by omega
      have e5 : 3 + (i : Int) - 1 = i + 2 := by omega
      have hMs2 : hM w cs n j base (i + 1) = M ++ [⟨halfK ((i : Int) + 2) (lastq M), 6, (M.length : Int) - 1, 0, (i : Int) + 2⟩] := by rw [hMs, hD, ← hinv2]
      rw [← hinv2] at q2 hq3
      have c5 := l16DivideK_ok (k := (i : Int) + 2) (by omega) (q := lastq M) (okq_len q2 hw.2) q2.2 (by omega)
      rw [hq3, divKP, hq3] at c5
      have c6 := l17Add_ok M 6 ((M.length : Int) - 1) 0 ((i : Int) + 2) (halfK ((i : Int) + 2) (lastq M)) (by omega)
      have hm1 : el (M.map D.pst) (M.length - 1) = D.pst (M.getD (M.length - 1) PSt.z) := el_pst (by omega)
      have e3 : ((M.length : Int) - 1).toNat = M.length - 1 := by omega
      have hlq2 : lastq M = (M.getD (M.length - 1) PSt.z).q := rfl
      clear hp hpq hq2 hMs hSe c2 c3 c0 c1 q2
      generalize halfK ((i : Int) + 2) (lastq M) = z1 at *
      rw [hlq2] at c5
      refine Ok.go ?_
      simp (disch := first | omega | decide +kernel) only [D.ints, go_sem, zqa, zqb, zqc, zqd, zqe, ↓reduceIte, reduceCtorEq, zqf, zqg, zqh]
      (repeat' (first | ((first | (refine gsel_split (fun q' => ?_) (fun q' => ?_) <;> (have h' := q') <;> (try simp only [decide_eq_true_eq, decide_eq_false_iff_not, zba, zbb, bne_iff_ne, ne_eq, beq_iff_eq, bne_eq_false_iff_eq, beq_eq_false_iff_ne, zia, zib, zic, zid, zda, zbc, zbd, zbe, gt_iff_lt, ge_iff_le] at h')) | (have q' := trivial; first | refine hE _ _ ret_ne ?_ | refine hE _ _ exit_ne ?_)) <;> (try simp (disch := first | omega | decide +kernel) only [q', go_sem, zqa, zqb, zqc, zqd, zqe, ↓reduceIte, reduceCtorEq, zqf, zqg, zqh]) <;> clear q') | (refine hN _ ?_ ?_ Wk.kk) | (with_reducible refine And.intro ?_ ?_) | (with_reducible omega) | (exact ok_ints) | (exact cells_ints) | (exact no_mem) | (with_reducible exact plain_ints) | (refine le_maxLen ?_; omega) | (refine List.forall_mem_cons.2 ⟨?_, ?_⟩) | (simp only [go_sem, zqc, zqb, List.mem_cons, List.not_mem_nil, forall_eq]; done)))
      refine hE2 _ _ exit_ne ?_
      simp (disch := first | omega | decide +kernel) only [D.ints, e5, e3, hm1, go_sem, zqa, zqb, zqc, zqd, zqe, ↓reduceIte, reduceCtorEq, zqf, zqg, zqh]
      (repeat' (first | ((first | (refine gsel_split (fun q' => ?_) (fun q' => ?_) <;> (have h' := q') <;> (try simp only [decide_eq_true_eq, decide_eq_false_iff_not, zba, zbb, bne_iff_ne, ne_eq, beq_iff_eq, bne_eq_false_iff_eq, beq_eq_false_iff_ne, zia, zib, zic, zid, zda, zbc, zbd, zbe, gt_iff_lt, ge_iff_le] at h')) | (have q' := trivial; first | refine callX_shared (c5) rfl (by decide) ?_ | refine callY_shared (c5) rfl ?_ | refine hE _ _ ret_ne ?_ | refine hE _ _ exit_ne ?_)) <;> (try simp (disch := first | omega | decide +kernel) only [q', D.ints, e5, e3, hm1, go_sem, zqa, zqb, zqc, zqd, zqe, ↓reduceIte, reduceCtorEq, zqf, zqg, zqh]) <;> clear q') | (refine hN _ ?_ ?_ Wk.kk) | (with_reducible refine And.intro ?_ ?_) | (with_reducible omega) | (exact ok_ints) | (exact cells_ints) | (exact no_mem) | (with_reducible exact plain_ints) | (refine le_maxLen ?_; omega) | (refine List.forall_mem_cons.2 ⟨?_, ?_⟩) | (simp only [go_sem, zqc, zqb, List.mem_cons, List.not_mem_nil, forall_eq]; done)))
      refine callX_mut [0] [0] [0] c6 ⟨.inl rfl, .inl rfl, .inl rfl, .inl rfl, .inl rfl, .inl rfl, trivial⟩ ⟨rfl, trivial⟩ rfl (by simp [dstB]) ?_
      simp (disch := first | omega | decide +kernel) only [D.ints, go_sem, zqa, zqb, zqc, zqd, zqe, ↓reduceIte, reduceCtorEq, zqf, zqg, zqh]
      refine hN (M ++ [⟨z1, 6, (M.length : Int) - 1, 0, (i : Int) + 2⟩]) _ hlt hMs2.symm (by refine Wk.auto ?_ ?_ <;> simp [extraK, lk, killL, St.kill, wipeO, wipeS, AV.has, AV.hasL, AO.wipe, List.map_set, updSt, insL, dropS, ins, List.map_append, Int.add_assoc])
  · obtain rfl : i = n - 1 := by omega
    simp (disch := first | omega | decide +kernel) only [go_sem, zqa, zqb, zqc, zqd, zqe, ↓reduceIte, reduceCtorEq, zqf, zqg, zqh]
    (repeat' (first | ((first | (refine gsel_split (fun q' => ?_) (fun q' => ?_) <;> (have h' := q') <;> (try simp only [decide_eq_true_eq, decide_eq_false_iff_not, zba, zbb, bne_iff_ne, ne_eq, beq_iff_eq, bne_eq_false_iff_eq, beq_eq_false_iff_ne, zia, zib, zic, zid, zda, zbc, zbd, zbe, gt_iff_lt, ge_iff_le] at h')) | (have q' := trivial; first | refine hE _ _ ret_ne ?_ | refine hE _ _ exit_ne ?_)) <;> (try simp (disch := first | omega | decide +kernel) only [q', go_sem, zqa, zqb, zqc, zqd, zqe, ↓reduceIte, reduceCtorEq, zqf, zqg, zqh]) <;> clear q') | (refine hN _ ?_ ?_ Wk.kk) | (with_reducible refine And.intro ?_ ?_) | (with_reducible omega) | (exact ok_ints) | (exact cells_ints) | (exact no_mem) | (with_reducible exact plain_ints) | (refine le_maxLen ?_; omega) | (refine List.forall_mem_cons.2 ⟨?_, ?_⟩) | (simp only [go_sem, zqc, zqb, List.mem_cons, List.not_mem_nil, forall_eq]; done)))
    rw [← hinv]
    exact retM_s1 0 rfl rfl fun _ => rfl
end Abs.Y
