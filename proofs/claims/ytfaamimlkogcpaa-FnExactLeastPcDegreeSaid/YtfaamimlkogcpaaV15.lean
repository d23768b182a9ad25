/- What functions of this program compute, as contracts over plain data, with what the proofs need of them. No condition. -/
import Derived.Test.YtfaamimlkogcpaaA5
import Derived.Test.YtfaamimlkogcpaaV14
set_option linter.all false
namespace Abs.Y
open Go Go.Proofs Abs
open Nat renaming reduceEqDiff → zqa, reduceLT → zqb, reduceAdd → zqc, reduceMul → zqd, reduceSub → zqe, reduceLeDiff → zqf, reduceSubDiff → zqg, reduceBEq → zqh
open Bool renaming not_eq_true' → zba, not_eq_false' → zbb, and_eq_true → zbc, or_eq_true → zbd, or_eq_false_iff → zbe
open Int renaming ofNat_lt → zia, ofNat_le → zib, not_lt → zic, not_le → zid
open Decidable renaming not_not → zda
set_option maxRecDepth 100000

@[reducible] def D.sp (v : List Int) : D := D.tms (spT v)
theorem el_sp {R : List (List Int)} {i : Nat} (h : i < R.length) : el (R.map D.sp) i = .slice ((spT (R.getD i [])).map D.tm) := el_map (f := D.sp) [] h
structure RowsB (p : Int) (u : Nat) (R : List (List Int)) : Prop where
  vec : AllV p (2 ^ u) R
  nz : ∀ r ∈ R, ¬ ldI r < 0
  bd : R.length ≤ 64
theorem EchB.rows {p : Int} {u : Nat} {R : List (List Int)} (hu : u ≤ 6) (h : EchB p u R) : RowsB p u R :=
  ⟨h.ech.vec, fun _ hr => h.ech.nz hr, Nat.le_trans (ech_bd (pow_le6 hu) h.ech) (pow_le6 hu)⟩
def restK (p : Int) (R : List (List Int)) (a : List Int) (i : Nat) : List Int := redD p ldG (R.drop (R.length - i)).reverse a
theorem restK_all (p : Int) (R : List (List Int)) (a : List Int) : restK p R a R.length = restR p R a := by unfold restK restR; rw [Nat.sub_self]; rfl
theorem restK_succ (p : Int) (R : List (List Int)) (a : List Int) {i q : Nat} (hi : i < R.length) (hq : R.length - 1 - i = q) : restK p R a (i + 1) = addD p (p - (restK p R a i).getD (ldG (R.getD q [])) 0) (restK p R a i) (R.getD q []) := by
  unfold restK
  rw [show R.length - (i + 1) = q by omega, show R.length - i = q + 1 by omega, drop_cons [] R q (by omega), List.reverse_cons]
  unfold redD
  rw [List.foldl_append]; rfl
section
variable {p : Int} {u : Nat} (hp : 1 < p ∧ p ≤ 5) (hu : u ≤ 6)
include hp hu
theorem l18AddD_ok {v w : List Int} {k : Int} (hk : 0 ≤ k ∧ k ≤ 5) (hv : Vec p (2 ^ u) v) (hw : Vec p (2 ^ u) w) : Ctr Try.prog 57 [.int .i64 p, .int .i64 u, D.sp v, D.sp w, .int .i64 k] true (.d (D.sp (addD p k v w))) [] := by
  have h2 := pow_le6 hu
  have c := Ctr.data1 (l18AddK_ok hp hu (a := spT v) (b := spT w) hk (by have := Tms.len hv.1 h2; omega) (by have := Tms.len hw.1 h2; omega) (tms_sp hv) (tms_sp hw))
  rwa [show dnT (2 ^ u) (spT v) = v by rw [← hv.1]; exact dn_sp v, show dnT (2 ^ u) (spT w) = w by rw [← hw.1]; exact dn_sp w] at c
set_option maxHeartbeats 8000000 in
theorem l20Rest_ok {R : List (List Int)} {a : List Int} (h : RowsB p u R) (ha : Vec p (2 ^ u) a) :
    Ctr Try.prog 136 [.int .i64 p, .int .i64 u, .slice (R.map D.sp), D.sp a] true (.d (D.sp (restR p R a))) [] := by
  have h2 := pow_le6 hu
  have hbd := h.bd
  refine Ctr.of (n := 39) (rs := [.tmp 8]) Try.func136 rfl rfl Try.ntmps136 rfl rfl (by kernel_rfl) Try.checked.mixed ?_
  simp (disch := first | omega | decide +kernel) only [go_sem, zqa, zqb, zqc, zqd, zqe, ↓reduceIte, reduceCtorEq, zqf, zqg, zqh]
  (repeat' (first | ((first | (refine gsel_split (fun q' => ?_) (fun q' => ?_) <;> (have h' := q') <;> (try simp only [decide_eq_true_eq, decide_eq_false_iff_not, zba, zbb, bne_iff_ne, ne_eq, beq_iff_eq, bne_eq_false_iff_eq, beq_eq_false_iff_ne, zia, zib, zic, zid, zda, zbc, zbd, zbe, gt_iff_lt, ge_iff_le] at h') <;> try (exfalso; omega)) | (have q' := trivial; first | refine hE _ _ ret_ne ?_ | refine hE _ _ exit_ne ?_)) <;> (try simp (disch := first | omega | decide +kernel) only [q', go_sem, zqa, zqb, zqc, zqd, zqe, ↓reduceIte, reduceCtorEq, zqf, zqg, zqh]) <;> clear q') | (refine hN _ ?_ ?_ Wk.kk) | (with_reducible refine And.intro ?_ ?_) | (with_reducible omega) | (exact ok_ints) | (exact cells_ints) | (exact no_mem) | (with_reducible exact plain_ints) | (refine le_maxLen ?_; omega) | (refine List.forall_mem_cons.2 ⟨?_, ?_⟩) | (simp only [go_sem, zqc, zqb, List.mem_cons, List.not_mem_nil, forall_eq]; done)))
  all_goals (first | omega | skip)
  refine Ok.loopN [37, 36, 35, 34, 33, 32, 31, 30, 29, 28, 27, 26, 25, 24, 23, 22, 21, 20, 19, 18, 17, 16, 15, 14, 13, 12, 11, 10, 9, 7, 6, 5, 4, 3] (fun i (v : List Int) => [(9, .d (.int .i64 ((R.length : Int) - 1 - (i : Nat)))), (3, .d (D.sp v))]) (fun _ _ => []) R.length
    (fun i v => Vec p (2 ^ u) v ∧ v = restK p R a i) a ⟨ha, by unfold restK; simp [redD]⟩ (by refine Wk.auto ?_ ?_ <;> simp [extraK, lk, killL, St.kill, wipeO, wipeS, AV.has, AV.hasL, AO.wipe, List.map_set, updSt, insL, dropS, ins, ]) ?_
  rintro R0 i v hN hE hi ⟨hv, hvs⟩
  by_cases hlt : i < R.length
  · obtain ⟨q, hq⟩ : ∃ q, R.length - 1 - i = q := ⟨_, rfl⟩
    have hqi : (R.length : Int) - 1 - (i : Nat) = (q : Nat) := by omega
    have hqi2 : (R.length : Int) - 1 - ((i : Int) + 1) = (q : Int) - 1 := by omega
    have hs := restK_succ p R a hlt hq
    rw [← hvs] at hs
    clear hvs
    have hqn : q < R.length := by omega
    have hrm : R.getD q [] ∈ R := getD_mem (z := ([] : List Int)) hqn
    have hr := h.vec _ hrm
    have hei := el_sp hqn
    have c1 := l20Lead_ok (v := R.getD q []) (by rw [hr.1]; exact h2) (h.nz _ hrm)
    have c2 := l20Coeff_ok (v := v) (by rw [hv.1]; exact h2) (ldG (R.getD q []))
    have hvl := hv.2 (ldG (R.getD q []))
    generalize ldG (R.getD q []) = l at *
    generalize R.getD q [] = r at *
    have c3 := l18AddD_ok hp hu (k := p - v.getD l 0) (by omega) hv hr
    have hw : Vec p (2 ^ u) (addD p (p - v.getD l 0) v r) := Vec.addD (by omega) hv.1 hr.1
    rw [hqi]
    generalize hk : v.getD l 0 = k at *
    by_cases hz : k = 0
    · have hb : (k != 0) = false := by rw [hz]; rfl
      rw [hz, Int.sub_zero, addD_mul 1 (by omega) hv hr.1] at hs
      clear hk
      simp (disch := first | omega | decide +kernel) only [hei, hb, go_sem, zqa, zqb, zqc, zqd, zqe, ↓reduceIte, reduceCtorEq, zqf, zqg, zqh]
      (repeat' (first | ((first | (refine gsel_split (fun q' => ?_) (fun q' => ?_) <;> (have h' := q') <;> (try simp only [decide_eq_true_eq, decide_eq_false_iff_not, zba, zbb, bne_iff_ne, ne_eq, beq_iff_eq, bne_eq_false_iff_eq, beq_eq_false_iff_ne, zia, zib, zic, zid, zda, zbc, zbd, zbe, gt_iff_lt, ge_iff_le] at h') <;> try (exfalso; omega)) | (have q' := trivial; first | refine callX_new (c1) rfl (by decide) ?_ | refine callY_new (c1) rfl ?_ | refine callX_new (c2) rfl (by decide) ?_ | refine callY_new (c2) rfl ?_ | refine hE _ _ ret_ne ?_ | refine hE _ _ exit_ne ?_)) <;> (try simp (disch := first | omega | decide +kernel) only [q', hei, hb, go_sem, zqa, zqb, zqc, zqd, zqe, ↓reduceIte, reduceCtorEq, zqf, zqg, zqh]) <;> clear q') | (refine hN _ ?_ ?_ Wk.kk) | (with_reducible refine And.intro ?_ ?_) | (with_reducible omega) | (exact ok_ints) | (exact cells_ints) | (exact no_mem) | (with_reducible exact plain_ints) | (refine le_maxLen ?_; omega) | (refine List.forall_mem_cons.2 ⟨?_, ?_⟩) | (simp only [go_sem, zqc, zqb, List.mem_cons, List.not_mem_nil, forall_eq]; done)))
      all_goals (first | omega | (refine hN v _ hlt ⟨hv, hs.symm⟩ (by refine Wk.auto ?_ ?_ <;> simp [extraK, lk, killL, St.kill, wipeO, wipeS, AV.has, AV.hasL, AO.wipe, List.map_set, updSt, insL, dropS, ins, hqi2]); done))
    · have hb : (k != 0) = true := bne_iff_ne.2 hz
      generalize addD p (p - k) v r = w at *
      clear hk
      simp (disch := first | omega | decide +kernel) only [hei, hb, go_sem, zqa, zqb, zqc, zqd, zqe, ↓reduceIte, reduceCtorEq, zqf, zqg, zqh]
      (repeat' (first | ((first | (refine gsel_split (fun q' => ?_) (fun q' => ?_) <;> (have h' := q') <;> (try simp only [decide_eq_true_eq, decide_eq_false_iff_not, zba, zbb, bne_iff_ne, ne_eq, beq_iff_eq, bne_eq_false_iff_eq, beq_eq_false_iff_ne, zia, zib, zic, zid, zda, zbc, zbd, zbe, gt_iff_lt, ge_iff_le] at h') <;> try (exfalso; omega)) | (have q' := trivial; first | refine callX_new (c1) rfl (by decide) ?_ | refine callY_new (c1) rfl ?_ | refine callX_new (c2) rfl (by decide) ?_ | refine callY_new (c2) rfl ?_ | refine callX_shared (c3) rfl (by decide) ?_ | refine callY_shared (c3) rfl ?_ | refine hE _ _ ret_ne ?_ | refine hE _ _ exit_ne ?_)) <;> (try simp (disch := first | omega | decide +kernel) only [q', hei, hb, go_sem, zqa, zqb, zqc, zqd, zqe, ↓reduceIte, reduceCtorEq, zqf, zqg, zqh]) <;> clear q') | (refine hN _ ?_ ?_ Wk.kk) | (with_reducible refine And.intro ?_ ?_) | (with_reducible omega) | (exact ok_ints) | (exact cells_ints) | (exact no_mem) | (with_reducible exact plain_ints) | (refine le_maxLen ?_; omega) | (refine List.forall_mem_cons.2 ⟨?_, ?_⟩) | (simp only [go_sem, zqc, zqb, List.mem_cons, List.not_mem_nil, forall_eq]; done)))
      all_goals (first | omega | (refine hN w _ hlt ⟨hw, hs.symm⟩ (by refine Wk.auto ?_ ?_ <;> simp [extraK, lk, killL, St.kill, wipeO, wipeS, AV.has, AV.hasL, AO.wipe, List.map_set, updSt, insL, dropS, ins, hqi2]); done))
  · obtain rfl : i = R.length := by omega
    rw [restK_all] at hvs
    have hlt2 : (R.length : Int) - 1 - (R.length : Nat) = -1 := by omega
    rw [← hvs] at hE
    simp (disch := first | omega | decide +kernel) only [hlt2, go_sem, zqa, zqb, zqc, zqd, zqe, ↓reduceIte, reduceCtorEq, zqf, zqg, zqh]
    (repeat' (first | ((first | (refine gsel_split (fun q' => ?_) (fun q' => ?_) <;> (have h' := q') <;> (try simp only [decide_eq_true_eq, decide_eq_false_iff_not, zba, zbb, bne_iff_ne, ne_eq, beq_iff_eq, bne_eq_false_iff_eq, beq_eq_false_iff_ne, zia, zib, zic, zid, zda, zbc, zbd, zbe, gt_iff_lt, ge_iff_le] at h') <;> try (exfalso; omega)) | (have q' := trivial; first | refine hE _ _ ret_ne ?_ | refine hE _ _ exit_ne ?_)) <;> (try simp (disch := first | omega | decide +kernel) only [q', hlt2, go_sem, zqa, zqb, zqc, zqd, zqe, ↓reduceIte, reduceCtorEq, zqf, zqg, zqh]) <;> clear q') | (refine hN _ ?_ ?_ Wk.kk) | (with_reducible refine And.intro ?_ ?_) | (with_reducible omega) | (exact ok_ints) | (exact cells_ints) | (exact no_mem) | (with_reducible exact plain_ints) | (refine le_maxLen ?_; omega) | (refine List.forall_mem_cons.2 ⟨?_, ?_⟩) | (simp only [go_sem, zqc, zqb, List.mem_cons, List.not_mem_nil, forall_eq]; done)))
    all_goals (first | omega | exact ret_s1 [] rfl)
end
section
variable {p : Int} {u : Nat} (hp : p = 2 ∨ p = 3 ∨ p = 5) (hu : u ≤ 6)
include hp hu
set_option maxHeartbeats 8000000 in
theorem l20Put_ok {R : List (List Int)} {a : List Int} (h : EchB p u R) (ha : Vec p (2 ^ u) a) :
    Ctr Try.prog 115 [.int .i64 p, .int .i64 u, .slice (R.map D.sp), D.sp a] true (.tup [.d (.slice ((putR p u R a).1.map D.sp)), .d (.bool (putR p u R a).2)]) [] := by
  have h2 := pow_le6 hu
  have hp1 : 1 < p ∧ p ≤ 5 := by omega
  have hR := h.rows hu
  have hbd := hR.bd
  have c1 := l20Rest_ok hp1 hu hR ha
  obtain ⟨hrv, _, hlead⟩ := restR_facts hp hu h.ech ha
  have hnzr := restR_nz hp hu h.ech ha
  have hlr := Tms.len hrv.1 h2
  unfold putR rowR
  generalize restR p R a = rest at *
  by_cases hl : ldI rest < 0
  · rw [if_pos hl]
    have hn : spT rest = [] := spT_nil.2 hl
    have hn0 : (spT rest).length = 0 := by rw [hn]; rfl
    refine Ctr.of (n := 88) (rs := [.tmp 8, .tmp 9]) Try.func115 rfl rfl Try.ntmps115 rfl rfl (by kernel_rfl) Try.checked.mixed ?_
    simp (disch := first | omega | decide +kernel) only [hn0, go_sem, zqa, zqb, zqc, zqd, zqe, ↓reduceIte, reduceCtorEq, zqf, zqg, zqh]
    (repeat' (first | ((first | (refine gsel_split (fun q' => ?_) (fun q' => ?_) <;> (have h' := q') <;> (try simp only [decide_eq_true_eq, decide_eq_false_iff_not, zba, zbb, bne_iff_ne, ne_eq, beq_iff_eq, bne_eq_false_iff_eq, beq_eq_false_iff_ne, zia, zib, zic, zid, zda, zbc, zbd, zbe, gt_iff_lt, ge_iff_le] at h') <;> try (exfalso; omega)) | (have q' := trivial; first | refine callX_shared (c1) rfl (by decide) ?_ | refine callY_shared (c1) rfl ?_ | refine hE _ _ ret_ne ?_ | refine hE _ _ exit_ne ?_)) <;> (try simp (disch := first | omega | decide +kernel) only [q', hn0, go_sem, zqa, zqb, zqc, zqd, zqe, ↓reduceIte, reduceCtorEq, zqf, zqg, zqh]) <;> clear q') | (refine hN _ ?_ ?_ Wk.kk) | (with_reducible refine And.intro ?_ ?_) | (with_reducible omega) | (exact ok_ints) | (exact cells_ints) | (exact no_mem) | (with_reducible exact plain_ints) | (refine le_maxLen ?_; omega) | (refine List.forall_mem_cons.2 ⟨?_, ?_⟩) | (simp only [go_sem, zqc, zqb, List.mem_cons, List.not_mem_nil, forall_eq]; done)))
    all_goals (first | omega | exact ret_s2 [] rfl rfl)
  · rw [if_neg hl]
    obtain ⟨n1, n2, n3⟩ := hnzr hl
    obtain ⟨i1, i2, _, _⟩ := invN_ok hp ⟨n1, n2⟩
    have hn0 : 0 < (spT rest).length := List.length_pos_iff.2 fun e => hl (spT_nil.1 e)
    have c2 := l20Lead_ok (v := rest) (by rw [hrv.1]; exact h2) hl
    have c3 := l20Coeff_ok (v := rest) (by rw [hrv.1]; exact h2) (ldG rest)
    have c4 := l20Inverse_ok hp ⟨n1, n2⟩
    have hz := sp_zero u (by omega)
    have c5 := l18AddK_ok hp1 hu (a := []) (b := spT rest) (k := (invN p (rest.getD (ldG rest) 0) : Int)) (by omega) (by simp) (by omega) (by intro t ht; cases ht) (tms_sp hrv)
    rw [show dnT (2 ^ u) (spT rest) = rest by rw [← hrv.1]; exact dn_sp rest, show dnT (2 ^ u) [] = List.replicate (2 ^ u) 0 from rfl, show D.tms [] = D.slice [] from rfl] at c5
    have hrow : Vec p (2 ^ u) (addD p (invN p (rest.getD (ldG rest) 0)) (List.replicate (2 ^ u) 0) rest) := Vec.addD (by omega) (a := List.replicate (2 ^ u) 0) (by simp) hrv.1
    generalize addD p (invN p (rest.getD (ldG rest) 0)) (List.replicate (2 ^ u) 0) rest = row at *
    generalize rest.getD (ldG rest) 0 = c at *
    generalize invN p c = k at *
    generalize ldG rest = lead at *
    refine Ctr.of (n := 88) (rs := [.tmp 8, .tmp 9]) Try.func115 rfl rfl Try.ntmps115 rfl rfl (by kernel_rfl) Try.checked.mixed ?_
    simp (disch := first | omega | decide +kernel) only [go_sem, zqa, zqb, zqc, zqd, zqe, ↓reduceIte, reduceCtorEq, zqf, zqg, zqh]
    (repeat' (first | ((first | (refine gsel_split (fun q' => ?_) (fun q' => ?_) <;> (have h' := q') <;> (try simp only [decide_eq_true_eq, decide_eq_false_iff_not, zba, zbb, bne_iff_ne, ne_eq, beq_iff_eq, bne_eq_false_iff_eq, beq_eq_false_iff_ne, zia, zib, zic, zid, zda, zbc, zbd, zbe, gt_iff_lt, ge_iff_le] at h') <;> try (exfalso; omega)) | (have q' := trivial; first | refine callX_new (c2) rfl (by decide) ?_ | refine callY_new (c2) rfl ?_ | refine callX_new (c3) rfl (by decide) ?_ | refine callY_new (c3) rfl ?_ | refine callX_new (c4) rfl (by decide) ?_ | refine callY_new (c4) rfl ?_ | refine callX_new (c5) rfl (by decide) ?_ | refine callY_new (c5) rfl ?_ | refine callX_shared (c1) rfl (by decide) ?_ | refine callY_shared (c1) rfl ?_ | refine hE _ _ ret_ne ?_ | refine hE _ _ exit_ne ?_)) <;> (try simp (disch := first | omega | decide +kernel) only [q', go_sem, zqa, zqb, zqc, zqd, zqe, ↓reduceIte, reduceCtorEq, zqf, zqg, zqh]) <;> clear q') | (refine hN _ ?_ ?_ Wk.kk) | (with_reducible refine And.intro ?_ ?_) | (with_reducible omega) | (exact ok_ints) | (exact cells_ints) | (exact no_mem) | (with_reducible exact plain_ints) | (refine le_maxLen ?_; omega) | (refine List.forall_mem_cons.2 ⟨?_, ?_⟩) | (simp only [go_sem, zqc, zqb, List.mem_cons, List.not_mem_nil, forall_eq]; done)))
    all_goals (first | omega | skip)
    refine Ok.weak (Wk.frz (j := 3800000) rfl) ?_
    simp (disch := first | omega | decide +kernel) only [St.frz, frzS, frzO, AV.frz, AV.frzL, AO.frz, go_sem, zqa, zqb, zqc, zqd, zqe, ↓reduceIte, reduceCtorEq, zqf, zqg, zqh]
    refine Ok.loopN [87, 86, 85, 84, 83, 82, 81, 80, 79, 78, 77, 76, 75, 74, 73, 72, 71, 70, 69, 68, 67, 66, 65, 64, 63, 62, 61, 60, 59, 58, 57, 56, 55, 54, 53, 52, 51, 50, 49, 48, 47, 46, 45, 44, 43, 42, 41, 40, 39, 38, 37, 36, 35, 34, 33, 32, 31, 30, 29, 28, 27, 26, 25, 24, 23, 22, 21, 20, 19, 18, 17, 16, 15, 14, 13, 12, 7, 6, 5, 4, 3] (fun i (s : List (List Int) × Bool) => [(14, .d (.int .i64 (i : Nat))), (13, .d (.bool s.2)), (12, .sl 38)]) (fun _ (s : List (List Int) × Bool) => [(38, .arr 37 1 (s.1.map D.sp))]) R.length
      (fun i s => s = putQ p lead row R i ∧ s.1.length ≤ 2 * i) ([], false) ⟨rfl, by simp⟩ (by refine Wk.auto ?_ ?_ <;> simp [extraK, lk, killL, St.kill, wipeO, wipeS, AV.has, AV.hasL, AO.wipe, List.map_set, updSt, insL, dropS, ins, List.map_nil]) ?_
    rintro R0 i ⟨o, b⟩ hN hE hi ⟨hs, hol⟩
    simp only at hol
    by_cases hlt : i < R.length
    · have hst := putQ_succ p lead row R hlt
      rw [← hs] at hst
      unfold putStep at hst
      simp only at hst
      have hrm : R.getD i [] ∈ R := getD_mem (z := ([] : List Int)) hlt
      have hr := hR.vec _ hrm
      have hei := el_sp hlt
      have c6 := l20Lead_ok (v := R.getD i []) (by rw [hr.1]; exact h2) (hR.nz _ hrm)
      have hli : ldG (R.getD i []) < 64 := by
        obtain ⟨_, h8, _⟩ := (ldI_or (R.getD i [])).resolve_left fun e => hR.nz _ hrm (by rw [e.1]; decide)
        have := hr.1
        omega
      have c7 := l20Before_ok (m := lead) (n := ldG (R.getD i [])) (by omega) hli
      have c8 := l20Coeff_ok (v := R.getD i []) (by rw [hr.1]; exact h2) lead
      have hrl := hr.2 lead
      have hcl1 : clr p lead row (R.getD i []) = addD p (p - (R.getD i []).getD lead 0) (R.getD i []) row := rfl
      have hcl0 : (R.getD i []).getD lead 0 = 0 → clr p lead row (R.getD i []) = R.getD i [] := fun h => clr_zero hp1.1 hr hrow.1 h
      have c9 := l18AddD_ok hp1 hu (k := p - (R.getD i []).getD lead 0) (by omega) hr hrow
      rw [← hcl1] at c9
      clear hs hcl1 hlead hnzr
      generalize clr p lead row (R.getD i []) = w at *
      generalize (R.getD i []).getD lead 0 = c0 at *
      generalize ldG (R.getD i []) = l at *
      generalize R.getD i [] = r at *
      cases b with
      | true =>
        rw [if_neg (fun h => by cases h.1)] at hst
        by_cases hz : c0 = 0
        · have hb : (c0 != 0) = false := by rw [hz]; rfl
          rw [hcl0 hz] at hst
          simp (disch := first | omega | decide +kernel) only [hei, hb, go_sem, zqa, zqb, zqc, zqd, zqe, ↓reduceIte, reduceCtorEq, zqf, zqg, zqh]
          (repeat' (first | ((first | (refine gsel_split (fun q' => ?_) (fun q' => ?_) <;> (have h' := q') <;> (try simp only [decide_eq_true_eq, decide_eq_false_iff_not, zba, zbb, bne_iff_ne, ne_eq, beq_iff_eq, bne_eq_false_iff_eq, beq_eq_false_iff_ne, zia, zib, zic, zid, zda, zbc, zbd, zbe, gt_iff_lt, ge_iff_le] at h') <;> try (exfalso; omega)) | (have q' := trivial; first | refine callX_new (c6) rfl (by decide) ?_ | refine callY_new (c6) rfl ?_ | refine callX_new (c7) rfl (by decide) ?_ | refine callY_new (c7) rfl ?_ | refine callX_new (c8) rfl (by decide) ?_ | refine callY_new (c8) rfl ?_ | refine hE _ _ ret_ne ?_ | refine hE _ _ exit_ne ?_)) <;> (try simp (disch := first | omega | decide +kernel) only [q', hei, hb, go_sem, zqa, zqb, zqc, zqd, zqe, ↓reduceIte, reduceCtorEq, zqf, zqg, zqh]) <;> clear q') | (refine hN _ ?_ ?_ Wk.kk) | (with_reducible refine And.intro ?_ ?_) | (with_reducible omega) | (exact ok_ints) | (exact cells_ints) | (exact no_mem) | (with_reducible exact plain_ints) | (refine le_maxLen ?_; omega) | (refine List.forall_mem_cons.2 ⟨?_, ?_⟩) | (simp only [go_sem, zqc, zqb, List.mem_cons, List.not_mem_nil, forall_eq]; done)))
          all_goals (first | omega | (refine hN (o ++ [r], true) _ hlt ⟨hst.symm, by simp; omega⟩ (by refine Wk.auto ?_ ?_ <;> simp [extraK, lk, killL, St.kill, wipeO, wipeS, AV.has, AV.hasL, AO.wipe, List.map_set, updSt, insL, dropS, ins, List.map_append, List.map_cons, List.map_nil]); done))
        · have hb : (c0 != 0) = true := bne_iff_ne.2 hz
          simp (disch := first | omega | decide +kernel) only [hei, hb, go_sem, zqa, zqb, zqc, zqd, zqe, ↓reduceIte, reduceCtorEq, zqf, zqg, zqh]
          (repeat' (first | ((first | (refine gsel_split (fun q' => ?_) (fun q' => ?_) <;> (have h' := q') <;> (try simp only [decide_eq_true_eq, decide_eq_false_iff_not, zba, zbb, bne_iff_ne, ne_eq, beq_iff_eq, bne_eq_false_iff_eq, beq_eq_false_iff_ne, zia, zib, zic, zid, zda, zbc, zbd, zbe, gt_iff_lt, ge_iff_le] at h') <;> try (exfalso; omega)) | (have q' := trivial; first | refine callX_new (c6) rfl (by decide) ?_ | refine callY_new (c6) rfl ?_ | refine callX_new (c7) rfl (by decide) ?_ | refine callY_new (c7) rfl ?_ | refine callX_new (c8) rfl (by decide) ?_ | refine callY_new (c8) rfl ?_ | refine callX_shared (c9) rfl (by decide) ?_ | refine callY_shared (c9) rfl ?_ | refine hE _ _ ret_ne ?_ | refine hE _ _ exit_ne ?_)) <;> (try simp (disch := first | omega | decide +kernel) only [q', hei, hb, go_sem, zqa, zqb, zqc, zqd, zqe, ↓reduceIte, reduceCtorEq, zqf, zqg, zqh]) <;> clear q') | (refine hN _ ?_ ?_ Wk.kk) | (with_reducible refine And.intro ?_ ?_) | (with_reducible omega) | (exact ok_ints) | (exact cells_ints) | (exact no_mem) | (with_reducible exact plain_ints) | (refine le_maxLen ?_; omega) | (refine List.forall_mem_cons.2 ⟨?_, ?_⟩) | (simp only [go_sem, zqc, zqb, List.mem_cons, List.not_mem_nil, forall_eq]; done)))
          all_goals (first | omega | (refine hN (o ++ [w], true) _ hlt ⟨hst.symm, by simp; omega⟩ (by refine Wk.auto ?_ ?_ <;> simp [extraK, lk, killL, St.kill, wipeO, wipeS, AV.has, AV.hasL, AO.wipe, List.map_set, updSt, insL, dropS, ins, List.map_append, List.map_cons, List.map_nil]); done))
      | false =>
        by_cases hk : kG lead < kG l
        · rw [if_pos ⟨rfl, hk⟩] at hst
          rw [decide_eq_true hk] at c7
          by_cases hz : c0 = 0
          · have hb : (c0 != 0) = false := by rw [hz]; rfl
            rw [hcl0 hz] at hst
            simp (disch := first | omega | decide +kernel) only [hei, hb, go_sem, zqa, zqb, zqc, zqd, zqe, ↓reduceIte, reduceCtorEq, zqf, zqg, zqh]
            (repeat' (first | ((first | (refine gsel_split (fun q' => ?_) (fun q' => ?_) <;> (have h' := q') <;> (try simp only [decide_eq_true_eq, decide_eq_false_iff_not, zba, zbb, bne_iff_ne, ne_eq, beq_iff_eq, bne_eq_false_iff_eq, beq_eq_false_iff_ne, zia, zib, zic, zid, zda, zbc, zbd, zbe, gt_iff_lt, ge_iff_le] at h') <;> try (exfalso; omega)) | (have q' := trivial; first | refine callX_new (c6) rfl (by decide) ?_ | refine callY_new (c6) rfl ?_ | refine callX_new (c7) rfl (by decide) ?_ | refine callY_new (c7) rfl ?_ | refine callX_new (c8) rfl (by decide) ?_ | refine callY_new (c8) rfl ?_ | refine hE _ _ ret_ne ?_ | refine hE _ _ exit_ne ?_)) <;> (try simp (disch := first | omega | decide +kernel) only [q', hei, hb, go_sem, zqa, zqb, zqc, zqd, zqe, ↓reduceIte, reduceCtorEq, zqf, zqg, zqh]) <;> clear q') | (refine hN _ ?_ ?_ Wk.kk) | (with_reducible refine And.intro ?_ ?_) | (with_reducible omega) | (exact ok_ints) | (exact cells_ints) | (exact no_mem) | (with_reducible exact plain_ints) | (refine le_maxLen ?_; omega) | (refine List.forall_mem_cons.2 ⟨?_, ?_⟩) | (simp only [go_sem, zqc, zqb, List.mem_cons, List.not_mem_nil, forall_eq]; done)))
            all_goals (first | omega | (refine hN (o ++ [row] ++ [r], true) _ hlt ⟨hst.symm, by simp; omega⟩ (by refine Wk.auto ?_ ?_ <;> simp [extraK, lk, killL, St.kill, wipeO, wipeS, AV.has, AV.hasL, AO.wipe, List.map_set, updSt, insL, dropS, ins, List.map_append, List.map_cons, List.map_nil]); done))
          · have hb : (c0 != 0) = true := bne_iff_ne.2 hz
            simp (disch := first | omega | decide +kernel) only [hei, hb, go_sem, zqa, zqb, zqc, zqd, zqe, ↓reduceIte, reduceCtorEq, zqf, zqg, zqh]
            (repeat' (first | ((first | (refine gsel_split (fun q' => ?_) (fun q' => ?_) <;> (have h' := q') <;> (try simp only [decide_eq_true_eq, decide_eq_false_iff_not, zba, zbb, bne_iff_ne, ne_eq, beq_iff_eq, bne_eq_false_iff_eq, beq_eq_false_iff_ne, zia, zib, zic, zid, zda, zbc, zbd, zbe, gt_iff_lt, ge_iff_le] at h') <;> try (exfalso; omega)) | (have q' := trivial; first | refine callX_new (c6) rfl (by decide) ?_ | refine callY_new (c6) rfl ?_ | refine callX_new (c7) rfl (by decide) ?_ | refine callY_new (c7) rfl ?_ | refine callX_new (c8) rfl (by decide) ?_ | refine callY_new (c8) rfl ?_ | refine callX_shared (c9) rfl (by decide) ?_ | refine callY_shared (c9) rfl ?_ | refine hE _ _ ret_ne ?_ | refine hE _ _ exit_ne ?_)) <;> (try simp (disch := first | omega | decide +kernel) only [q', hei, hb, go_sem, zqa, zqb, zqc, zqd, zqe, ↓reduceIte, reduceCtorEq, zqf, zqg, zqh]) <;> clear q') | (refine hN _ ?_ ?_ Wk.kk) | (with_reducible refine And.intro ?_ ?_) | (with_reducible omega) | (exact ok_ints) | (exact cells_ints) | (exact no_mem) | (with_reducible exact plain_ints) | (refine le_maxLen ?_; omega) | (refine List.forall_mem_cons.2 ⟨?_, ?_⟩) | (simp only [go_sem, zqc, zqb, List.mem_cons, List.not_mem_nil, forall_eq]; done)))
            all_goals (first | omega | (refine hN (o ++ [row] ++ [w], true) _ hlt ⟨hst.symm, by simp; omega⟩ (by refine Wk.auto ?_ ?_ <;> simp [extraK, lk, killL, St.kill, wipeO, wipeS, AV.has, AV.hasL, AO.wipe, List.map_set, updSt, insL, dropS, ins, List.map_append, List.map_cons, List.map_nil]); done))
        · rw [if_neg (fun h => hk h.2)] at hst
          rw [decide_eq_false hk] at c7
          by_cases hz : c0 = 0
          · have hb : (c0 != 0) = false := by rw [hz]; rfl
            rw [hcl0 hz] at hst
            simp (disch := first | omega | decide +kernel) only [hei, hb, go_sem, zqa, zqb, zqc, zqd, zqe, ↓reduceIte, reduceCtorEq, zqf, zqg, zqh]
            (repeat' (first | ((first | (refine gsel_split (fun q' => ?_) (fun q' => ?_) <;> (have h' := q') <;> (try simp only [decide_eq_true_eq, decide_eq_false_iff_not, zba, zbb, bne_iff_ne, ne_eq, beq_iff_eq, bne_eq_false_iff_eq, beq_eq_false_iff_ne, zia, zib, zic, zid, zda, zbc, zbd, zbe, gt_iff_lt, ge_iff_le] at h') <;> try (exfalso; omega)) | (have q' := trivial; first | refine callX_new (c6) rfl (by decide) ?_ | refine callY_new (c6) rfl ?_ | refine callX_new (c7) rfl (by decide) ?_ | refine callY_new (c7) rfl ?_ | refine callX_new (c8) rfl (by decide) ?_ | refine callY_new (c8) rfl ?_ | refine hE _ _ ret_ne ?_ | refine hE _ _ exit_ne ?_)) <;> (try simp (disch := first | omega | decide +kernel) only [q', hei, hb, go_sem, zqa, zqb, zqc, zqd, zqe, ↓reduceIte, reduceCtorEq, zqf, zqg, zqh]) <;> clear q') | (refine hN _ ?_ ?_ Wk.kk) | (with_reducible refine And.intro ?_ ?_) | (with_reducible omega) | (exact ok_ints) | (exact cells_ints) | (exact no_mem) | (with_reducible exact plain_ints) | (refine le_maxLen ?_; omega) | (refine List.forall_mem_cons.2 ⟨?_, ?_⟩) | (simp only [go_sem, zqc, zqb, List.mem_cons, List.not_mem_nil, forall_eq]; done)))
            all_goals (first | omega | (refine hN (o ++ [r], false) _ hlt ⟨hst.symm, by simp; omega⟩ (by refine Wk.auto ?_ ?_ <;> simp [extraK, lk, killL, St.kill, wipeO, wipeS, AV.has, AV.hasL, AO.wipe, List.map_set, updSt, insL, dropS, ins, List.map_append, List.map_cons, List.map_nil]); done))
          · have hb : (c0 != 0) = true := bne_iff_ne.2 hz
            simp (disch := first | omega | decide +kernel) only [hei, hb, go_sem, zqa, zqb, zqc, zqd, zqe, ↓reduceIte, reduceCtorEq, zqf, zqg, zqh]
            (repeat' (first | ((first | (refine gsel_split (fun q' => ?_) (fun q' => ?_) <;> (have h' := q') <;> (try simp only [decide_eq_true_eq, decide_eq_false_iff_not, zba, zbb, bne_iff_ne, ne_eq, beq_iff_eq, bne_eq_false_iff_eq, beq_eq_false_iff_ne, zia, zib, zic, zid, zda, zbc, zbd, zbe, gt_iff_lt, ge_iff_le] at h') <;> try (exfalso; omega)) | (have q' := trivial; first | refine callX_new (c6) rfl (by decide) ?_ | refine callY_new (c6) rfl ?_ | refine callX_new (c7) rfl (by decide) ?_ | refine callY_new (c7) rfl ?_ | refine callX_new (c8) rfl (by decide) ?_ | refine callY_new (c8) rfl ?_ | refine callX_shared (c9) rfl (by decide) ?_ | refine callY_shared (c9) rfl ?_ | refine hE _ _ ret_ne ?_ | refine hE _ _ exit_ne ?_)) <;> (try simp (disch := first | omega | decide +kernel) only [q', hei, hb, go_sem, zqa, zqb, zqc, zqd, zqe, ↓reduceIte, reduceCtorEq, zqf, zqg, zqh]) <;> clear q') | (refine hN _ ?_ ?_ Wk.kk) | (with_reducible refine And.intro ?_ ?_) | (with_reducible omega) | (exact ok_ints) | (exact cells_ints) | (exact no_mem) | (with_reducible exact plain_ints) | (refine le_maxLen ?_; omega) | (refine List.forall_mem_cons.2 ⟨?_, ?_⟩) | (simp only [go_sem, zqc, zqb, List.mem_cons, List.not_mem_nil, forall_eq]; done)))
            all_goals (first | omega | (refine hN (o ++ [w], false) _ hlt ⟨hst.symm, by simp; omega⟩ (by refine Wk.auto ?_ ?_ <;> simp [extraK, lk, killL, St.kill, wipeO, wipeS, AV.has, AV.hasL, AO.wipe, List.map_set, updSt, insL, dropS, ins, List.map_append, List.map_cons, List.map_nil]); done))
    · obtain rfl : i = R.length := by omega
      rw [← hs] at hE
      cases b with
      | true =>
        simp (disch := first | omega | decide +kernel) only [go_sem, zqa, zqb, zqc, zqd, zqe, ↓reduceIte, reduceCtorEq, zqf, zqg, zqh]
        (repeat' (first | ((first | (refine gsel_split (fun q' => ?_) (fun q' => ?_) <;> (have h' := q') <;> (try simp only [decide_eq_true_eq, decide_eq_false_iff_not, zba, zbb, bne_iff_ne, ne_eq, beq_iff_eq, bne_eq_false_iff_eq, beq_eq_false_iff_ne, zia, zib, zic, zid, zda, zbc, zbd, zbe, gt_iff_lt, ge_iff_le] at h') <;> try (exfalso; omega)) | (have q' := trivial; first | refine hE _ _ ret_ne ?_ | refine hE _ _ exit_ne ?_)) <;> (try simp (disch := first | omega | decide +kernel) only [q', go_sem, zqa, zqb, zqc, zqd, zqe, ↓reduceIte, reduceCtorEq, zqf, zqg, zqh]) <;> clear q') | (refine hN _ ?_ ?_ Wk.kk) | (with_reducible refine And.intro ?_ ?_) | (with_reducible omega) | (exact ok_ints) | (exact cells_ints) | (exact no_mem) | (with_reducible exact plain_ints) | (refine le_maxLen ?_; omega) | (refine List.forall_mem_cons.2 ⟨?_, ?_⟩) | (simp only [go_sem, zqc, zqb, List.mem_cons, List.not_mem_nil, forall_eq]; done)))
        all_goals (first | omega | exact ret_s2 [38] rfl rfl)
      | false =>
        simp (disch := first | omega | decide +kernel) only [go_sem, zqa, zqb, zqc, zqd, zqe, ↓reduceIte, reduceCtorEq, zqf, zqg, zqh]
        (repeat' (first | ((first | (refine gsel_split (fun q' => ?_) (fun q' => ?_) <;> (have h' := q') <;> (try simp only [decide_eq_true_eq, decide_eq_false_iff_not, zba, zbb, bne_iff_ne, ne_eq, beq_iff_eq, bne_eq_false_iff_eq, beq_eq_false_iff_ne, zia, zib, zic, zid, zda, zbc, zbd, zbe, gt_iff_lt, ge_iff_le] at h') <;> try (exfalso; omega)) | (have q' := trivial; first | refine hE _ _ ret_ne ?_ | refine hE _ _ exit_ne ?_)) <;> (try simp (disch := first | omega | decide +kernel) only [q', go_sem, zqa, zqb, zqc, zqd, zqe, ↓reduceIte, reduceCtorEq, zqf, zqg, zqh]) <;> clear q') | (refine hN _ ?_ ?_ Wk.kk) | (with_reducible refine And.intro ?_ ?_) | (with_reducible omega) | (exact ok_ints) | (exact cells_ints) | (exact no_mem) | (with_reducible exact plain_ints) | (refine le_maxLen ?_; omega) | (refine List.forall_mem_cons.2 ⟨?_, ?_⟩) | (simp only [go_sem, zqc, zqb, List.mem_cons, List.not_mem_nil, forall_eq]; done)))
        all_goals (first | omega | (refine ret_s2 [38] ?_ rfl; simp [frzs, rowOf, St.frz, frzS, frzO, AV.frz, AV.frzL, AO.frz, lk]; done))
end
end Abs.Y

namespace Abs.Y
open Go Go.Proofs Abs
open Nat renaming reduceEqDiff → zqa, reduceLT → zqb, reduceAdd → zqc, reduceMul → zqd, reduceSub → zqe, reduceLeDiff → zqf, reduceSubDiff → zqg, reduceBEq → zqh
open Bool renaming not_eq_true' → zba, not_eq_false' → zbb, and_eq_true → zbc, or_eq_true → zbd, or_eq_false_iff → zbe
open Int renaming ofNat_lt → zia, ofNat_le → zib, not_lt → zic, not_le → zid
open Decidable renaming not_not → zda
set_option maxRecDepth 100000

def goodL (p v : Int) (cs : List (List Int)) (list : List (List (Int × Int))) : Bool := ((okCnf v cs && primeB p v) && decide (list.length = cs.length)) && list.all (isT p (2 ^ v.toNat))
end Abs.Y
