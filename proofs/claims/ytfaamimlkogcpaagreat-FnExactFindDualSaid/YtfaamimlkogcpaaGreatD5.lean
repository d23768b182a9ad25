/- What functions of this program compute, as contracts over plain data, with what the proofs need of them. No condition. -/
import Derived.Test.YtfaamimlkogcpaaGreatD4
set_option linter.all false
namespace Abs.Y
open Go Go.Proofs Abs
open Nat renaming reduceEqDiff → zqa, reduceLT → zqb, reduceAdd → zqc, reduceMul → zqd, reduceSub → zqe, reduceLeDiff → zqf, reduceSubDiff → zqg, reduceBEq → zqh
open Bool renaming not_eq_true' → zba, not_eq_false' → zbb, and_eq_true → zbc, or_eq_true → zbd, or_eq_false_iff → zbe
open Int renaming ofNat_lt → zia, ofNat_le → zib, not_lt → zic, not_le → zid
open Decidable renaming not_not → zda
set_option maxRecDepth 100000
section
variable {p : Int} {u : Nat} (hp : p = 2 ∨ p = 3 ∨ p = 5) (hu : u ≤ 6)
include hp hu
set_option maxHeartbeats 80000000 in
theorem echAdd_ok {e : EchS} {a : List Int} (h : EchI p u e) (ha : Vec p (2 ^ u) a) :
    CtrM Tryz.prog 50 [.p 0 0, .d (.ints a)] (echO p u e.R e.M e.many) [0] true (.d (.bool (!decide (ldI (restE p e a) < 0))))
      (echO p u (addE p u e a).R (addE p u e a).M (addE p u e a).many) := by
  have h2 := pow_le6 hu
  have hp1 : 1 < p ∧ p ≤ 5 := by omega
  have hP := h.toP hu
  have c1 := reduceM_ok hp1 hu hP ha
  obtain ⟨hr1, _, hr3, hr4⟩ := restE_facts hp hu h ha
  have c2 := leading_ok (v := restE p e a) (by have := hr1.1; omega)
  have hrn := fun hl => rest_nz hp hu h ha hl
  have hbd := hP.bd
  have hmany := h.many
  have hml := h.len
  have hmad := h.mad
  have hRv := h.ech.vec
  change CtrM _ _ _ _ _ _ (.tup [.d (.ints (restE p e a)), _]) _ at c1
  unfold addE rowE ownE
  generalize (redQ p e.R e.M a e.many e.R.length).2 = md at *
  generalize restE p e a = rest at *
  obtain ⟨R, M, many⟩ := e
  simp only at *
  by_cases hl : ldI rest < 0
  · rw [if_pos hl, decide_eq_true hl, Bool.not_true]
    refine CtrM.of (n := 222) (rs := [.tmp 4]) Tryz.func50 rfl rfl Tryz.ntmps50 rfl rfl (by kernel_rfl) Tryz.checked.mixed ?_; intro u
    simp (disch := first | omega | decide +kernel) only [D.ints, echO, go_sem, zqa, zqb, zqc, zqd, zqe, ↓reduceIte, reduceCtorEq, zqf, zqg, zqh]
    (repeat' (first | ((first | (refine gsel_split (fun q' => ?_) (fun q' => ?_) <;> (have h' := q') <;> (try simp only [decide_eq_true_eq, decide_eq_false_iff_not, zba, zbb, bne_iff_ne, ne_eq, beq_iff_eq, bne_eq_false_iff_eq, beq_eq_false_iff_ne, zia, zib, zic, zid, zda, zbc, zbd, zbe, gt_iff_lt, ge_iff_le] at h') <;> try (exfalso; omega)) | (have q' := trivial; first | refine callX_mut [0, 1, 2] [0, 1, 2, 20] [20] (c1) ⟨.inl rfl, .inl rfl, trivial⟩ ⟨rfl, rfl, rfl, trivial⟩ rfl (by simp [dstB]) ?_ | refine callX_new (c2) rfl (by decide) ?_ | refine callY_new (c2) rfl ?_ | refine hE _ _ ret_ne ?_ | refine hE _ _ exit_ne ?_)) <;> (try simp (disch := first | omega | decide +kernel) only [q', D.ints, go_sem, zqa, zqb, zqc, zqd, zqe, ↓reduceIte, reduceCtorEq, zqf, zqg, zqh]) <;> clear q') | (refine hN _ ?_ ?_ Wk.kk) | (with_reducible refine And.intro ?_ ?_) | (with_reducible omega) | (exact ok_ints) | (exact cells_ints) | (exact no_mem) | (with_reducible exact plain_ints) | (refine le_maxLen ?_; omega) | (refine List.forall_mem_cons.2 ⟨?_, ?_⟩) | (simp only [go_sem, zqc, zqb, List.mem_cons, List.not_mem_nil, forall_eq]; done)))
    all_goals (first | omega | skip)
    all_goals (refine retM_of (nth [0, 1, 2]) rfl ?_ rfl ?_ ?_ ?_ (.inl rfl))
    all_goals (first | trivial | (simp [lk, nth, AO.ren, AV.renL, AV.ren]; done) | (simp [keptM, nth, lk]; done))
  · rw [if_neg hl, decide_eq_false hl, Bool.not_false]
    obtain ⟨n1, n2, n3, n4⟩ := hrn hl
    rw [n4] at c2 hl
    have c3 := inverse_ok (u := u) hp ⟨n1, n2⟩
    obtain ⟨i1, i2, i3, _⟩ := invN_ok hp ⟨n1, n2⟩
    have c4 := Ctr.data1 (zero_ok hp1 hu)
    have c5 := Ctr.data1 (plus_ok hp1 hu (k := (invN p (rest.getD (ldG rest) 0) : Int)) (Vec.zero (p := p) (by omega) (2 ^ u)) hr1 (by omega))
    have hrl := hr1.1
    have hrow : Vec p (2 ^ u) (addD p (invN p (rest.getD (ldG rest) 0)) (List.replicate (2 ^ u) 0) rest) := Vec.addD (by omega) (a := List.replicate (2 ^ u) 0) (by simp) hr1.1
    generalize addD p (invN p (rest.getD (ldG rest) 0)) (List.replicate (2 ^ u) 0) rest = row at *
    generalize hq : rest.getD (ldG rest) 0 = q at *
    generalize invN p q = k at *
    generalize ldG rest = lead at *
    obtain ⟨z0, hz0⟩ : ∃ z0 : List Int, z0 = List.replicate (many + 1) (0 : Int) := ⟨_, rfl⟩
    have er : List.replicate (many + 1) (D.int .i64 0) = z0.map (D.int .i64) := by rw [hz0]; simp
    have hzl : z0.length = many + 1 := by rw [hz0]; simp
    have hzg : ∀ i, z0.getD i 0 = 0 := fun i => by rw [hz0, getD_rep]
    clear hz0
    have et : ((many : Int) + 1).toNat = many + 1 := by omega
    refine CtrM.of (n := 222) (rs := [.tmp 4]) Tryz.func50 rfl rfl Tryz.ntmps50 rfl rfl (by kernel_rfl) Tryz.checked.mixed ?_; intro u
    simp (disch := first | omega | decide +kernel) only [D.ints, echO, hq, et, er, go_sem, zqa, zqb, zqc, zqd, zqe, ↓reduceIte, reduceCtorEq, zqf, zqg, zqh]
    (repeat' (first | ((first | (refine gsel_split (fun q' => ?_) (fun q' => ?_) <;> (have h' := q') <;> (try simp only [decide_eq_true_eq, decide_eq_false_iff_not, zba, zbb, bne_iff_ne, ne_eq, beq_iff_eq, bne_eq_false_iff_eq, beq_eq_false_iff_ne, zia, zib, zic, zid, zda, zbc, zbd, zbe, gt_iff_lt, ge_iff_le] at h') <;> try (exfalso; omega)) | (have q' := trivial; first | refine callX_mut [0, 1, 2] [0, 1, 2, 20] [20] (c1) ⟨.inl rfl, .inl rfl, trivial⟩ ⟨rfl, rfl, rfl, trivial⟩ rfl (by simp [dstB]) ?_ | refine callX_new (c2) rfl (by decide) ?_ | refine callY_new (c2) rfl ?_ | refine callX_new (c3) rfl (by decide) ?_ | refine callY_new (c3) rfl ?_ | refine callX_shared (c4) rfl (by decide) ?_ | refine callY_shared (c4) rfl ?_ | refine callX_shared (c5) rfl (by decide) ?_ | refine callY_shared (c5) rfl ?_ | refine hE _ _ ret_ne ?_ | refine hE _ _ exit_ne ?_)) <;> (try simp (disch := first | omega | decide +kernel) only [q', D.ints, hq, et, er, go_sem, zqa, zqb, zqc, zqd, zqe, ↓reduceIte, reduceCtorEq, zqf, zqg, zqh]) <;> clear q') | (refine hN _ ?_ ?_ Wk.kk) | (with_reducible refine And.intro ?_ ?_) | (with_reducible omega) | (exact ok_ints) | (exact cells_ints) | (exact no_mem) | (with_reducible exact plain_ints) | (refine le_maxLen ?_; omega) | (refine List.forall_mem_cons.2 ⟨?_, ?_⟩) | (simp only [go_sem, zqc, zqb, List.mem_cons, List.not_mem_nil, forall_eq]; done)))
    all_goals (first | omega | skip)
    refine Ok.loopN [221, 220, 219, 218, 217, 216, 215, 214, 213, 212, 211, 210, 209, 208, 207, 206, 205, 204, 203, 202, 201, 200, 199, 198, 197, 196, 195, 194, 193, 192, 191, 190, 189, 188, 187, 186, 185, 184, 183, 182, 181, 180, 179, 178, 177, 176, 175, 174, 173, 172, 171, 170, 169, 168, 167, 166, 165, 164, 163, 162, 161, 160, 159, 158, 157, 156, 155, 154, 153, 152, 151, 150, 149, 148, 147, 146, 145, 144, 143, 142, 141, 140, 139, 138, 137, 136, 135, 134, 133, 132, 131, 130, 129, 128, 127, 126, 125, 124, 123, 122, 121, 120, 119, 118, 117, 116, 115, 114, 113, 112, 111, 110, 109, 108, 107, 106, 105, 104, 103, 102, 101, 100, 99, 98, 97, 96, 95, 94, 93, 92, 91, 90, 89, 88, 87, 86, 85, 84, 83, 82, 81, 80, 79, 78, 77, 76, 75, 74, 73, 72, 71, 70, 69, 68, 67, 66, 65, 64, 63, 62, 61, 60, 59, 58, 57, 56, 53, 52, 51, 50, 49, 48, 47, 46, 45, 44, 43, 42, 41, 40, 39, 38, 37, 36, 35, 34, 33, 32, 31, 30, 29, 28, 27, 26, 25, 24, 23, 22, 21, 20, 19, 18, 17, 16, 15, 14, 13, 12, 11, 10, 6, 4, 3, 2, 1] (fun j _ => [(56, .d (.int .i64 (j : Nat)))]) (fun _ (w : List Int) => [(53, .arr 3 1 (w.map (.int .i64)))]) md.length
      (fun j w => w.length = many + 1 ∧ ∀ i, w.getD i 0 = if i < j then (p - md.getD i 0) * k % p else 0) z0 ⟨hzl, fun i => by rw [hzg]; simp⟩ (by refine Wk.auto ?_ ?_ <;> simp [extraK, lk, killL, St.kill, wipeO, wipeS, AV.has, AV.hasL, AO.wipe, List.map_set, updSt, insL, dropS, ins, ]) ?_
    rintro R2 j w hN hE hj ⟨hwl, hw⟩
    by_cases hjt : j < md.length
    · have hmj := hr4 j
      have hkb : 0 ≤ (p - md.getD j 0) * k ∧ (p - md.getD j 0) * k ≤ 25 := ⟨Int.mul_nonneg (by omega) (by omega), Int.le_trans (Int.mul_le_mul (show p - md.getD j 0 ≤ 5 by omega) (show (k : Int) ≤ 5 by omega) (by omega) (by decide)) (by decide)⟩
      have em : ((p - md.getD j 0) * k).tmod p = (p - md.getD j 0) * k % p := Int.tmod_eq_emod_of_nonneg (by omega)
      have hp0 : ¬ p = 0 := by omega
      have hset : ∀ i, (w.set j ((p - md.getD j 0) * k % p)).getD i 0 = if i < j + 1 then (p - md.getD i 0) * k % p else 0 := fun i => by
        rw [getD_set]
        by_cases e : j = i
        · subst e; rw [if_pos ⟨rfl, by omega⟩, if_pos (by omega)]
        · rw [if_neg (fun h => e h.1), hw i]
          by_cases e2 : i < j
          · rw [if_pos e2, if_pos (by omega)]
          · rw [if_neg e2, if_neg (by omega)]
      clear hw
      simp (disch := first | omega | decide +kernel) only [em, go_sem, zqa, zqb, zqc, zqd, zqe, ↓reduceIte, reduceCtorEq, zqf, zqg, zqh]
      (repeat' (first | ((first | (refine gsel_split (fun q' => ?_) (fun q' => ?_) <;> (have h' := q') <;> (try simp only [decide_eq_true_eq, decide_eq_false_iff_not, zba, zbb, bne_iff_ne, ne_eq, beq_iff_eq, bne_eq_false_iff_eq, beq_eq_false_iff_ne, zia, zib, zic, zid, zda, zbc, zbd, zbe, gt_iff_lt, ge_iff_le] at h') <;> try (exfalso; omega)) | (have q' := trivial; first | refine hE _ _ ret_ne ?_ | refine hE _ _ exit_ne ?_)) <;> (try simp (disch := first | omega | decide +kernel) only [q', em, go_sem, zqa, zqb, zqc, zqd, zqe, ↓reduceIte, reduceCtorEq, zqf, zqg, zqh]) <;> clear q') | (refine hN _ ?_ ?_ Wk.kk) | (with_reducible refine And.intro ?_ ?_) | (with_reducible omega) | (exact ok_ints) | (exact cells_ints) | (exact no_mem) | (with_reducible exact plain_ints) | (refine le_maxLen ?_; omega) | (refine List.forall_mem_cons.2 ⟨?_, ?_⟩) | (simp only [go_sem, zqc, zqb, List.mem_cons, List.not_mem_nil, forall_eq]; done)))
      all_goals (first | omega | (refine hN (w.set j ((p - md.getD j 0) * k % p)) _ hjt ⟨by simp [hwl], hset⟩ (by refine Wk.auto ?_ ?_ <;> simp [extraK, lk, killL, St.kill, wipeO, wipeS, AV.has, AV.hasL, AO.wipe, List.map_set, updSt, insL, dropS, ins, ]); done))
    · obtain rfl : j = md.length := by omega
      have hown : (w.map (D.int .i64)).set many (D.int .i64 k) = (ownV p k md).map (D.int .i64) := by
        rw [← List.map_set]
        congr 1
        refine ext_getDz 0 (by simp [ownV, hwl, hr3]) fun i hi => ?_
        simp only [List.length_set] at hi
        rw [getD_set]
        unfold ownV
        rw [List.getD_eq_getElem?_getD (l := _ ++ _), List.getElem?_append]
        by_cases e : many = i
        · subst e
          rw [if_pos ⟨rfl, by omega⟩, if_neg (by simp; omega)]
          simp [hr3]
        · rw [if_neg (fun h => e h.1), hw i, if_pos (by omega), if_pos (by simp; omega), List.getElem?_map, List.getD_eq_getElem?_getD]
          rw [List.getElem?_eq_getElem (by omega)]; rfl
      have hov : Vec p (many + 1) (ownV p k md) := ownV_vec (by omega) (by omega) hr3
      clear hw hN
      generalize ownV p k md = own at *
      simp (disch := first | omega | decide +kernel) only [hown, go_sem, zqa, zqb, zqc, zqd, zqe, ↓reduceIte, reduceCtorEq, zqf, zqg, zqh]
      (repeat' (first | ((first | (refine gsel_split (fun q' => ?_) (fun q' => ?_) <;> (have h' := q') <;> (try simp only [decide_eq_true_eq, decide_eq_false_iff_not, zba, zbb, bne_iff_ne, ne_eq, beq_iff_eq, bne_eq_false_iff_eq, beq_eq_false_iff_ne, zia, zib, zic, zid, zda, zbc, zbd, zbe, gt_iff_lt, ge_iff_le] at h') <;> try (exfalso; omega)) | (have q' := trivial; first | refine hE _ _ ret_ne ?_ | refine hE _ _ exit_ne ?_)) <;> (try simp (disch := first | omega | decide +kernel) only [q', hown, go_sem, zqa, zqb, zqc, zqd, zqe, ↓reduceIte, reduceCtorEq, zqf, zqg, zqh]) <;> clear q') | (refine hN _ ?_ ?_ Wk.kk) | (with_reducible refine And.intro ?_ ?_) | (with_reducible omega) | (exact ok_ints) | (exact cells_ints) | (exact no_mem) | (with_reducible exact plain_ints) | (refine le_maxLen ?_; omega) | (refine List.forall_mem_cons.2 ⟨?_, ?_⟩) | (simp only [go_sem, zqc, zqb, List.mem_cons, List.not_mem_nil, forall_eq]; done)))
      all_goals (first | omega | skip)
      refine Ok.loopN [221, 220, 219, 218, 217, 216, 215, 214, 213, 212, 211, 210, 209, 208, 207, 206, 205, 204, 203, 202, 201, 200, 199, 198, 197, 196, 195, 194, 193, 192, 191, 190, 189, 188, 187, 186, 185, 184, 183, 182, 181, 180, 179, 178, 177, 176, 175, 174, 173, 172, 171, 170, 169, 168, 167, 166, 165, 164, 163, 162, 161, 160, 159, 158, 157, 156, 155, 154, 153, 152, 151, 150, 149, 148, 147, 146, 145, 144, 143, 142, 141, 140, 139, 138, 137, 136, 135, 134, 133, 132, 131, 130, 129, 128, 127, 126, 125, 124, 123, 122, 121, 120, 119, 118, 117, 116, 115, 114, 113, 112, 111, 110, 109, 108, 107, 106, 105, 104, 103, 102, 101, 100, 99, 96, 95, 94, 93, 92, 91, 90, 89, 88, 87, 86, 85, 84, 83, 82, 81, 80, 79, 78, 77, 76, 75, 74, 73, 72, 71, 70, 69, 68, 67, 66, 65, 64, 63, 62, 61, 60, 59, 58, 57, 56, 55, 54, 53, 52, 51, 50, 49, 48, 47, 46, 45, 44, 43, 42, 41, 40, 39, 38, 37, 36, 35, 34, 33, 32, 31, 30, 29, 28, 27, 26, 25, 24, 23, 22, 21, 20, 19, 18, 17, 16, 15, 14, 13, 12, 11, 10, 8, 6, 4, 3, 2, 1] (fun i (_ : List (List Int) × List (List Int)) => [(99, .d (.int .i64 (i : Nat)))])
        (fun i (s : List (List Int) × List (List Int)) => if i < R.length then [(900000001, .dp none ((s.2.getD i []).map (.int .i64)) none), (2, .dp (some (56, 1)) (s.2.map D.ints) (some ((i, 0), some 900000001))), (1, .arr 56 1 (s.1.map D.ints))]
          else [(2, .dp (some (56, 1)) (s.2.map D.ints) none), (1, .arr 56 1 (s.1.map D.ints))]) R.length
        (fun i s => s.1.length = R.length ∧ s.2.length = R.length ∧ (∀ j, s.1.getD j [] = if j < i then clr p lead row (R.getD j []) else R.getD j []) ∧ ∀ j, s.2.getD j [] = if j < i then madN p lead many own (R.getD j []) (M.getD j []) else M.getD j []) (R, M) ⟨rfl, hml, fun j => by simp, fun j => by simp⟩ (by
          by_cases h0 : 0 < R.length
          · refine (Wk.lend 2 0 0 900000001 (es := M.map D.ints) (ys := (M.getD 0 []).map (.int .i64)) rfl (by decide) (by simp; omega) (by rw [el_intss (by omega)]; rfl) (by rw [el_intss (by omega)]; simp [D.cells])).trans ?_
            exact (by refine Wk.auto ?_ ?_ <;> simp [extraK, lk, killL, St.kill, wipeO, wipeS, AV.has, AV.hasL, AO.wipe, List.map_set, updSt, insL, dropS, ins, if_pos h0, D.ints])
          · exact (by refine Wk.auto ?_ ?_ <;> simp [extraK, lk, killL, St.kill, wipeO, wipeS, AV.has, AV.hasL, AO.wipe, List.map_set, updSt, insL, dropS, ins, if_neg h0, D.ints])) ?_
      rintro R3 i ⟨X, Y⟩ hN0 hE0 hi ⟨hXl, hYl, hX, hY⟩
      simp only at hXl hYl hX hY
      by_cases hlt : i < R.length
      · have hXi := hX i
        have hYi := hY i
        rw [if_neg (by omega)] at hXi hYi
        have hRi : R.getD i [] ∈ R := getD_mem (z := ([] : List Int)) hlt
        have hMi : M.getD i [] ∈ M := getD_mem (z := ([] : List Int)) (by omega)
        have hrv := hRv _ hRi
        obtain ⟨hm1, hm2⟩ := hmad _ hMi
        have c6 := cloneD_ok hp1 hu (a := M.getD i []) (by omega)
        have hpv := padM_vec (many := many) hm1 hm2 (by omega)
        generalize hrr : R.getD i [] = r at *
        generalize hmm : M.getD i [] = m at *
        have hrl2 := hrv.1
        have hrc := hrv.2 lead
        generalize hc : r.getD lead 0 = c at *
        have hmad1 : madN p lead many own r m = if c = 0 then padM many m else addM p (p - c) (padM many m) own := by unfold madN; rw [hc]
        have hclr1 : clr p lead row r = addD p (p - c) r row := by unfold clr; rw [hc]
        have hpad : m.map (D.int .i64) ++ List.replicate ((many : Int) + 1 - m.length).toNat (D.int .i64 0) = (padM many m).map (D.int .i64) := by
          unfold padM
          rw [List.map_append, List.map_replicate, show ((many : Int) + 1 - m.length).toNat = many + 1 - m.length by omega]
        have hset1 : (Y.map D.ints).set i (.slice (m.map (.int .i64))) = Y.map D.ints := by
          have := map_set_self D.ints [] Y (i := i) (by omega)
          rwa [hYi] at this
        generalize padM many m = pad at *
        obtain ⟨Y2, hY2⟩ : ∃ Y2, Y2 = Y.set i pad := ⟨_, rfl⟩
        have hset2 : (Y.map D.ints).set i (.slice (pad.map (.int .i64))) = Y2.map D.ints := by rw [hY2, List.map_set]; rfl
        have hY2l : Y2.length = R.length := by rw [hY2]; simp [hYl]
        have hY2g : ∀ j, Y2.getD j [] = if j = i then pad else Y.getD j [] := fun j => by rw [hY2, set_getDz [] _ _ _ _ (by omega)]
        have hY2i := hY2g i
        rw [if_pos rfl] at hY2i
        clear hE hY2
        have hE := hE0
        have c7 := Ctr.data1 (plus_ok hp1 hu (k := p - c) hrv hrow (by omega))
        rw [← hclr1] at c7
        have hclr0 : c = 0 → clr p lead row r = r := fun hz => by rw [hclr1, hz, Int.sub_zero, addD_mul 1 (by omega) hrv hrow.1]
        clear hclr1
        generalize hr2 : clr p lead row r = r2 at *
        obtain ⟨X2, hX2⟩ : ∃ X2, X2 = X.set i r2 := ⟨_, rfl⟩
        have hset3 : (X.map D.ints).set i (.slice (r2.map (.int .i64))) = X2.map D.ints := by rw [hX2, List.map_set]; rfl
        have hX2l : X2.length = R.length := by rw [hX2]; simp [hXl]
        have hX2g : ∀ j, X2.getD j [] = if j = i then r2 else X.getD j [] := fun j => by rw [hX2, set_getDz [] _ _ _ _ (by omega)]
        clear hX2
        simp (disch := first | omega | decide +kernel) only [if_pos hlt, hXi, hYi, hc, go_sem, zqa, zqb, zqc, zqd, zqe, ↓reduceIte, reduceCtorEq, zqf, zqg, zqh]
        (repeat' (first | ((first | (refine gsel_split (fun q' => ?_) (fun q' => ?_) <;> (have h' := q') <;> (try simp only [decide_eq_true_eq, decide_eq_false_iff_not, zba, zbb, bne_iff_ne, ne_eq, beq_iff_eq, bne_eq_false_iff_eq, beq_eq_false_iff_ne, zia, zib, zic, zid, zda, zbc, zbd, zbe, gt_iff_lt, ge_iff_le] at h') <;> try (exfalso; omega)) | (have q' := trivial; first | refine callX_new (c6) rfl (by decide) ?_ | refine callY_new (c6) rfl ?_ | refine callX_shared (c7) rfl (by decide) ?_ | refine callY_shared (c7) rfl ?_ | refine hE _ _ ret_ne ?_ | refine hE _ _ exit_ne ?_)) <;> (try simp (disch := first | omega | decide +kernel) only [q', if_pos hlt, hXi, hYi, hc, hset1, hpad, hset2, hset3, go_sem, zqa, zqb, zqc, zqd, zqe, ↓reduceIte, reduceCtorEq, zqf, zqg, zqh]) <;> clear q') | (refine hN _ ?_ ?_ Wk.kk) | (with_reducible refine And.intro ?_ ?_) | (with_reducible omega) | (exact ok_ints) | (exact cells_ints) | (exact no_mem) | (with_reducible exact plain_ints) | (refine le_maxLen ?_; omega) | (refine List.forall_mem_cons.2 ⟨?_, ?_⟩) | (simp only [go_sem, zqc, zqb, List.mem_cons, List.not_mem_nil, forall_eq]; done)))
        all_goals (first | omega | skip)
        all_goals (first | (intro x hx; exact (of_eq_true (bare_ints pad)) x hx) | skip)
        · rw [if_neg h'] at hmad1
          refine Ok.loopN [221, 220, 219, 218, 217, 216, 215, 214, 213, 212, 211, 210, 209, 208, 207, 206, 205, 204, 203, 202, 201, 200, 199, 198, 197, 196, 195, 194, 193, 192, 191, 190, 189, 188, 187, 186, 185, 184, 183, 182, 181, 180, 179, 178, 177, 176, 175, 174, 173, 172, 171, 170, 169, 168, 167, 166, 165, 164, 163, 162, 161, 160, 157, 156, 155, 154, 153, 152, 151, 150, 149, 148, 147, 146, 145, 144, 143, 142, 141, 140, 139, 138, 137, 136, 135, 134, 133, 132, 131, 130, 129, 128, 127, 126, 125, 124, 123, 122, 121, 120, 119, 118, 117, 116, 115, 114, 113, 112, 111, 110, 109, 108, 107, 106, 105, 104, 103, 102, 101, 100, 96, 95, 94, 93, 92, 91, 90, 89, 88, 87, 86, 85, 84, 83, 82, 81, 80, 79, 78, 77, 76, 75, 74, 73, 72, 71, 70, 69, 68, 67, 66, 65, 64, 63, 62, 61, 60, 59, 58, 57, 56, 55, 54, 53, 52, 51, 50, 49, 48, 47, 46, 45, 44, 43, 42, 41, 40, 39, 38, 37, 36, 35, 34, 33, 32, 31, 30, 29, 28, 27, 26, 25, 24, 23, 22, 21, 20, 19, 18, 17, 16, 15, 13, 11, 10, 8, 6, 4, 3, 2, 1] (fun j _ => [(160, .d (.int .i64 (j : Nat)))])
            (fun _ (w : List Int) => [(900000002, .dp none (w.map (.int .i64)) none), (2, .dp (some (56, 1)) (Y2.map D.ints) (some ((i, 0), some 900000002)))]) own.length
            (fun j w => w = (List.range j).foldl (fun x k => stP p x k ((p - c) * own.getD k 0)) pad) pad rfl
            ((Wk.lend 2 i 0 900000002 (es := Y2.map D.ints) (ys := pad.map (.int .i64)) rfl (by decide) (by simp; omega) (by rw [el_intss (by omega), hY2i]; rfl) (by rw [el_intss (by omega)]; simp [D.cells])).trans (by refine Wk.auto ?_ ?_ <;> simp [extraK, lk, killL, St.kill, wipeO, wipeS, AV.has, AV.hasL, AO.wipe, List.map_set, updSt, insL, dropS, ins, D.ints])) ?_
          rintro R4 j w hN hE hj hw
          have hwv : Vec p (many + 1) w := by rw [hw]; exact fold_vec (fun v k h => h.st (by omega) _ _) _ hpv
          by_cases hjt : j < own.length
          · have hs2 : (List.range (j + 1)).foldl (fun x k => stP p x k ((p - c) * own.getD k 0)) pad = w.set j ((w.getD j 0 + (p - c) * own.getD j 0) % p) := by
              rw [List.range_succ, List.foldl_append, ← hw]; rfl
            have hoj := hov.2 j
            have hwj := hwv.2 j
            have hwl2 := hwv.1
            have hol := hov.1
            clear hw
            have hcd : 0 ≤ (p - c) * own.getD j 0 ∧ (p - c) * own.getD j 0 ≤ 25 := ⟨Int.mul_nonneg (by omega) hoj.1, Int.le_trans (Int.mul_le_mul (show p - c ≤ 5 by omega) (show own.getD j 0 ≤ 5 by omega) hoj.1 (by decide)) (by decide)⟩
            have em : (w.getD j 0 + (p - c) * own.getD j 0).tmod p = (w.getD j 0 + (p - c) * own.getD j 0) % p := Int.tmod_eq_emod_of_nonneg (by omega)
            have hp0 : ¬ p = 0 := by omega
            simp (disch := first | omega | decide +kernel) only [em, Option.isSome_none, Bool.false_eq_true, if_false, go_sem, zqa, zqb, zqc, zqd, zqe, ↓reduceIte, reduceCtorEq, zqf, zqg, zqh]
            (repeat' (first | ((first | (refine gsel_split (fun q' => ?_) (fun q' => ?_) <;> (have h' := q') <;> (try simp only [decide_eq_true_eq, decide_eq_false_iff_not, zba, zbb, bne_iff_ne, ne_eq, beq_iff_eq, bne_eq_false_iff_eq, beq_eq_false_iff_ne, zia, zib, zic, zid, zda, zbc, zbd, zbe, gt_iff_lt, ge_iff_le] at h') <;> try (exfalso; omega)) | (have q' := trivial; first | refine hE _ _ ret_ne ?_ | refine hE _ _ exit_ne ?_)) <;> (try simp (disch := first | omega | decide +kernel) only [q', em, Option.isSome_none, Bool.false_eq_true, if_false, go_sem, zqa, zqb, zqc, zqd, zqe, ↓reduceIte, reduceCtorEq, zqf, zqg, zqh]) <;> clear q') | (refine hN _ ?_ ?_ Wk.kk) | (with_reducible refine And.intro ?_ ?_) | (with_reducible omega) | (exact ok_ints) | (exact cells_ints) | (exact no_mem) | (with_reducible exact plain_ints) | (refine le_maxLen ?_; omega) | (refine List.forall_mem_cons.2 ⟨?_, ?_⟩) | (simp only [go_sem, zqc, zqb, List.mem_cons, List.not_mem_nil, forall_eq]; done)))
            all_goals (first | omega | skip)
            all_goals (first | (refine hN (w.set j ((w.getD j 0 + (p - c) * own.getD j 0) % p)) _ hjt hs2.symm (by refine Wk.auto ?_ ?_ <;> simp [extraK, lk, killL, St.kill, wipeO, wipeS, AV.has, AV.hasL, AO.wipe, List.map_set, updSt, insL, dropS, ins, D.ints]); done))
          · obtain rfl : j = own.length := by omega
            have hw2 : w = addM p (p - c) pad own := hw
            rw [← hw2] at hmad1
            obtain ⟨Y3, hY3⟩ : ∃ Y3, Y3 = Y2.set i w := ⟨_, rfl⟩
            have hset4 : (Y2.map D.ints).set i (.slice (w.map (.int .i64))) = Y3.map D.ints := by rw [hY3, List.map_set]; rfl
            have hY3l : Y3.length = R.length := by rw [hY3]; simp [hY2l]
            have hY3g : ∀ j, Y3.getD j [] = if j = i then w else Y2.getD j [] := fun j => by rw [hY3, set_getDz [] _ _ _ _ (by omega)]
            clear hY3 hw hw2
            simp (disch := first | omega | decide +kernel) only [D.ints, go_sem, zqa, zqb, zqc, zqd, zqe, ↓reduceIte, reduceCtorEq, zqf, zqg, zqh]
            (repeat' (first | ((first | (refine gsel_split (fun q' => ?_) (fun q' => ?_) <;> (have h' := q') <;> (try simp only [decide_eq_true_eq, decide_eq_false_iff_not, zba, zbb, bne_iff_ne, ne_eq, beq_iff_eq, bne_eq_false_iff_eq, beq_eq_false_iff_ne, zia, zib, zic, zid, zda, zbc, zbd, zbe, gt_iff_lt, ge_iff_le] at h') <;> try (exfalso; omega)) | (have q' := trivial; first | refine hE _ _ ret_ne ?_ | refine hE _ _ exit_ne ?_)) <;> (try simp (disch := first | omega | decide +kernel) only [q', D.ints, go_sem, zqa, zqb, zqc, zqd, zqe, ↓reduceIte, reduceCtorEq, zqf, zqg, zqh]) <;> clear q') | (refine hN _ ?_ ?_ Wk.kk) | (with_reducible refine And.intro ?_ ?_) | (with_reducible omega) | (exact ok_ints) | (exact cells_ints) | (exact no_mem) | (with_reducible exact plain_ints) | (refine le_maxLen ?_; omega) | (refine List.forall_mem_cons.2 ⟨?_, ?_⟩) | (simp only [go_sem, zqc, zqb, List.mem_cons, List.not_mem_nil, forall_eq]; done)))
            all_goals (first | omega | skip)
            refine hN0 (X2, Y3) _ hlt ⟨hX2l, hY3l, fun j => ?_, fun j => ?_⟩ ((Wk.fold 2 (by simp (disch := first | omega | decide +kernel) only [hset4, go_sem, zqa, zqb, zqc, zqd, zqe, ↓reduceIte, reduceCtorEq, zqf, zqg, zqh]; rfl)).trans (by
              by_cases hnx : i + 1 < R.length
              · refine (Wk.lend 2 (i + 1) 0 900000001 (es := Y3.map D.ints) (ys := (Y3.getD (i + 1) []).map (.int .i64)) rfl (by decide) (by simp; omega) (by rw [el_intss (by omega)]; rfl) (by rw [el_intss (by omega)]; simp [D.cells])).trans ?_
                exact (by refine Wk.auto ?_ ?_ <;> simp [extraK, lk, killL, St.kill, wipeO, wipeS, AV.has, AV.hasL, AO.wipe, List.map_set, updSt, insL, dropS, ins, if_pos hnx, D.ints])
              · exact (by refine Wk.auto ?_ ?_ <;> simp [extraK, lk, killL, St.kill, wipeO, wipeS, AV.has, AV.hasL, AO.wipe, List.map_set, updSt, insL, dropS, ins, if_neg hnx, D.ints])))
            · simp only
              rw [hX2g j, hX j]
              by_cases e : j = i
              · subst e; rw [if_pos rfl, if_pos (by omega), hrr, hr2]
              · rw [if_neg e]
                by_cases e2 : j < i
                · rw [if_pos e2, if_pos (by omega)]
                · rw [if_neg e2, if_neg (by omega)]
            · simp only
              rw [hY3g j, hY2g j, hY j]
              by_cases e : j = i
              · subst e; rw [if_pos rfl, if_pos (by omega), hrr, hmm, hmad1]
              · rw [if_neg e, if_neg e]
                by_cases e2 : j < i
                · rw [if_pos e2, if_pos (by omega)]
                · rw [if_neg e2, if_neg (by omega)]
        · have hc0 : c = 0 := h'
          rw [if_pos hc0] at hmad1
          refine hN0 (X, Y2) _ hlt ⟨hXl, hY2l, fun j => ?_, fun j => ?_⟩ (by
            by_cases hnx : i + 1 < R.length
            · refine (Wk.lend 2 (i + 1) 0 900000001 (es := Y2.map D.ints) (ys := (Y2.getD (i + 1) []).map (.int .i64)) rfl (by decide) (by simp; omega) (by rw [el_intss (by omega)]; rfl) (by rw [el_intss (by omega)]; simp [D.cells])).trans ?_
              exact (by refine Wk.auto ?_ ?_ <;> simp [extraK, lk, killL, St.kill, wipeO, wipeS, AV.has, AV.hasL, AO.wipe, List.map_set, updSt, insL, dropS, ins, if_pos hnx, D.ints])
            · exact (by refine Wk.auto ?_ ?_ <;> simp [extraK, lk, killL, St.kill, wipeO, wipeS, AV.has, AV.hasL, AO.wipe, List.map_set, updSt, insL, dropS, ins, if_neg hnx, D.ints]))
          · simp only
            rw [hX j]
            by_cases e : j = i
            · subst e; rw [if_neg (by omega), if_pos (by omega), hrr, hr2, hclr0 hc0]
            · by_cases e2 : j < i
              · rw [if_pos e2, if_pos (by omega)]
              · rw [if_neg e2, if_neg (by omega)]
          · simp only
            rw [hY2g j, hY j]
            by_cases e : j = i
            · subst e; rw [if_pos rfl, if_pos (by omega), hrr, hmm, hmad1]
            · rw [if_neg e]
              by_cases e2 : j < i
              · rw [if_pos e2, if_pos (by omega)]
              · rw [if_neg e2, if_neg (by omega)]
      · obtain rfl : i = R.length := by omega
        have hXf : X = R.map (clr p lead row) := by
          refine ext_getDz [] (by simp [hXl]) fun j hj => ?_
          rw [hX j, if_pos (by omega), List.getD_eq_getElem?_getD (l := R.map _), List.getElem?_map, List.getD_eq_getElem?_getD, List.getElem?_eq_getElem (by omega)]; rfl
        have hYf : Y = (List.range R.length).map (fun i => madN p lead many own (R.getD i []) (M.getD i [])) := by
          refine ext_getDz [] (by simp [hYl]) fun j hj => ?_
          rw [hY j, if_pos (by omega), List.getD_eq_getElem?_getD (l := List.map _ _), List.getElem?_map, List.getElem?_range (by omega)]; rfl
        rw [← hXf, ← hYf] at hE0
        clear hXf hYf hX hY hE
        have hE := hE0
        simp (disch := first | omega | decide +kernel) only [if_neg hlt, D.ints, go_sem, zqa, zqb, zqc, zqd, zqe, ↓reduceIte, reduceCtorEq, zqf, zqg, zqh]
        (repeat' (first | ((first | (refine gsel_split (fun q' => ?_) (fun q' => ?_) <;> (have h' := q') <;> (try simp only [decide_eq_true_eq, decide_eq_false_iff_not, zba, zbb, bne_iff_ne, ne_eq, beq_iff_eq, bne_eq_false_iff_eq, beq_eq_false_iff_ne, zia, zib, zic, zid, zda, zbc, zbd, zbe, gt_iff_lt, ge_iff_le] at h') <;> try (exfalso; omega)) | (have q' := trivial; first | refine hE _ _ ret_ne ?_ | refine hE _ _ exit_ne ?_)) <;> (try simp (disch := first | omega | decide +kernel) only [q', if_neg hlt, D.ints, go_sem, zqa, zqb, zqc, zqd, zqe, ↓reduceIte, reduceCtorEq, zqf, zqg, zqh]) <;> clear q') | (refine hN _ ?_ ?_ Wk.kk) | (with_reducible refine And.intro ?_ ?_) | (with_reducible omega) | (exact ok_ints) | (exact cells_ints) | (exact no_mem) | (with_reducible exact plain_ints) | (refine le_maxLen ?_; omega) | (refine List.forall_mem_cons.2 ⟨?_, ?_⟩) | (simp only [go_sem, zqc, zqb, List.mem_cons, List.not_mem_nil, forall_eq]; done)))
        all_goals (first | omega | skip)
        all_goals (refine retM_of (nth [0, 1, 2]) rfl ?_ rfl ?_ ?_ ?_ (.inl rfl))
        all_goals (first | trivial | (simp [lk, nth, AO.ren, AV.renL, AV.ren, D.ints]; done) | (simp [keptM, nth, lk]; done))
end
end Abs.Y
