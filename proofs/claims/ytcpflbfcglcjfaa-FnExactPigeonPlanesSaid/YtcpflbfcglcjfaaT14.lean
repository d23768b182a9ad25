/- What functions of this program compute, as contracts over plain data, with what the proofs need of them. No condition. -/
import Derived.Test.YtcpflbfcglcjfaaM1p
import Derived.Test.YtcpflbfcglcjfaaAbsBox
set_option linter.all false
namespace Abs.Y
open Go Go.Proofs Abs
open Nat renaming reduceEqDiff → zqa, reduceLT → zqb, reduceAdd → zqc, reduceMul → zqd, reduceSub → zqe, reduceLeDiff → zqf, reduceSubDiff → zqg, reduceBEq → zqh
open Bool renaming not_eq_true' → zba, not_eq_false' → zbb, and_eq_true → zbc, or_eq_true → zbd, or_eq_false_iff → zbe
open Int renaming ofNat_lt → zia, ofNat_le → zib, not_lt → zic, not_le → zid
open Decidable renaming not_not → zda
set_option maxRecDepth 100000

def lenPS : List PSt → Nat
  | [] => 0
  | s :: r => s.q.co.length + 5 + lenPS r
def cntPS1 (s : PSt) (k : Int) : PSt := ⟨⟨cntI k s.q.co.length, k + s.q.co.length⟩, k + s.q.co.length + 1, k + s.q.co.length + 2, k + s.q.co.length + 3, k + s.q.co.length + 4⟩
def cntPS : List PSt → Int → List PSt
  | [], _ => []
  | s :: r, k => cntPS1 s k :: cntPS r (k + s.q.co.length + 5)
def offPS (a : List PSt) (k : Int) (i : Nat) : Int := k + (lenPS (a.take i) : Nat)
theorem cntPS_len : ∀ (a : List PSt) (k : Int), (cntPS a k).length = a.length
  | [], _ => rfl
  | x :: r, k => by simp [cntPS, cntPS_len r]
theorem cntPS_getD : ∀ (a : List PSt) (k : Int) (i : Nat), i < a.length → (cntPS a k).getD i PSt.z = cntPS1 (a.getD i PSt.z) (offPS a k i)
  | x :: r, k, 0, _ => by simp [cntPS, offPS, lenPS]
  | x :: r, k, i + 1, h => by
    have := cntPS_getD r (k + x.q.co.length + 5) i (by simpa using h)
    rw [cntPS, List.getD_cons_succ, this, List.getD_cons_succ]
    unfold offPS
    rw [List.take_succ_cons, lenPS]
    congr 1; omega
theorem offPS_succ (a : List PSt) (k : Int) (i : Nat) (h : i < a.length) : offPS a k (i + 1) = offPS a k i + (a.getD i PSt.z).q.co.length + 5 := by
  have : ∀ (a : List PSt) (i : Nat), i < a.length → lenPS (a.take (i + 1)) = lenPS (a.take i) + (a.getD i PSt.z).q.co.length + 5 := by
    intro a
    induction a with
    | nil => intro i h; simp at h
    | cons x r ih =>
      intro i h
      cases i with
      | zero => simp [lenPS]
      | succ i =>
        have := ih i (by simpa using h)
        rw [List.take_succ_cons, lenPS, this, List.take_succ_cons, lenPS, List.getD_cons_succ]; omega
  unfold offPS
  rw [this a i h]; omega
theorem offPS_zero (a : List PSt) (k : Int) : offPS a k 0 = k := by simp [offPS, lenPS]
theorem offPS_len (a : List PSt) (k : Int) : offPS a k a.length = k + lenPS a := by simp [offPS]
theorem lenPS_take_le : ∀ (a : List PSt) (i : Nat), lenPS (a.take i) ≤ lenPS a
  | [], i => by simp [lenPS]
  | x :: r, 0 => by simp [lenPS]
  | x :: r, i + 1 => by have := lenPS_take_le r i; simp [lenPS]; exact this
theorem offPS_le (a : List PSt) (k : Int) (i : Nat) : offPS a k i ≤ k + lenPS a := by
  have := lenPS_take_le a i; unfold offPS; omega
theorem offPS_nonneg (a : List PSt) {k : Int} (i : Nat) (h : 0 ≤ k) : 0 ≤ offPS a k i := by unfold offPS; omega

theorem eqPl_ok (p q : Pl) (hl : p.co.length ≤ 4294967296) : Ctr Try.prog 177 [D.pl p, D.pl q] false (.d (.bool (decide (p = q)))) [] := by
  have c1 := eqIntS_ok p.co q.co hl
  have e : (p = q) = (p.co = q.co ∧ p.bd = q.bd) := by
    apply propext
    constructor
    · rintro rfl; exact ⟨rfl, rfl⟩
    · rintro ⟨h1, h2⟩; cases p; cases q; simp_all
  simp only [e]
  refine Ctr.of (n := 16) (rs := [.tmp 4]) Try.func177 rfl rfl Try.ntmps177 rfl rfl (by kernel_rfl) Try.checked.mixed ?_
  simp (disch := first | omega | decide +kernel) only [D.ints, go_sem, zqa, zqb, zqc, zqd, zqe, ↓reduceIte, reduceCtorEq, zqf, zqg, zqh]
  (repeat' (first | ((first | (refine gsel_split (fun q' => ?_) (fun q' => ?_) <;> (have h' := q') <;> (try simp only [decide_eq_true_eq, decide_eq_false_iff_not, zba, zbb, bne_iff_ne, ne_eq, beq_iff_eq, bne_eq_false_iff_eq, beq_eq_false_iff_ne, zia, zib, zic, zid, zda, zbc, zbd, zbe, gt_iff_lt, ge_iff_le] at h')) | (have q' := trivial; first | refine callX_new (c1) rfl (by decide) ?_ | refine callY_new (c1) rfl ?_ | refine hE _ _ ret_ne ?_ | refine hE _ _ exit_ne ?_)) <;> (try simp (disch := first | omega | decide +kernel) only [q', D.ints, go_sem, zqa, zqb, zqc, zqd, zqe, ↓reduceIte, reduceCtorEq, zqf, zqg, zqh]) <;> clear q') | (refine hN _ ?_ ?_ Wk.kk) | (with_reducible refine And.intro ?_ ?_) | (with_reducible omega) | (exact ok_ints) | (exact cells_ints) | (exact no_mem) | (with_reducible exact plain_ints) | (refine le_maxLen ?_; omega) | (refine List.forall_mem_cons.2 ⟨?_, ?_⟩) | (simp only [go_sem, zqc, zqb, List.mem_cons, List.not_mem_nil, forall_eq]; done)))
  all_goals (first | (simp_all [D.plain]; done))
theorem eqPlaneStep_ok (s t : PSt) (hl : s.q.co.length ≤ 4294967296) : Ctr Try.prog 83 [D.pst s, D.pst t] false (.d (.bool (decide (s = t)))) [] := by
  have hc := eqPl_ok s.q t.q hl
  refine Ctr.of (n := 31) (rs := [.tmp 4]) Try.func83 rfl rfl Try.ntmps83 rfl rfl (by kernel_rfl) Try.checked.mixed ?_
  simp (disch := first | omega | decide +kernel) only [D.ints, go_sem, zqa, zqb, zqc, zqd, zqe, ↓reduceIte, reduceCtorEq, zqf, zqg, zqh]
  (repeat' (first | ((first | (refine gsel_split (fun q' => ?_) (fun q' => ?_) <;> (have h' := q') <;> (try simp only [decide_eq_true_eq, decide_eq_false_iff_not, zba, zbb, bne_iff_ne, ne_eq, beq_iff_eq, bne_eq_false_iff_eq, beq_eq_false_iff_ne, zia, zib, zic, zid, zda, zbc, zbd, zbe, gt_iff_lt, ge_iff_le] at h')) | (have q' := trivial; first | refine callX_new (hc) rfl (by decide) ?_ | refine callY_new (hc) rfl ?_ | refine hE _ _ ret_ne ?_ | refine hE _ _ exit_ne ?_)) <;> (try simp (disch := first | omega | decide +kernel) only [q', D.ints, go_sem, zqa, zqb, zqc, zqd, zqe, ↓reduceIte, reduceCtorEq, zqf, zqg, zqh]) <;> clear q') | (refine hN _ ?_ ?_ Wk.kk) | (with_reducible refine And.intro ?_ ?_) | (with_reducible omega) | (exact ok_ints) | (exact cells_ints) | (exact no_mem) | (with_reducible exact plain_ints) | (refine le_maxLen ?_; omega) | (refine List.forall_mem_cons.2 ⟨?_, ?_⟩) | (simp only [go_sem, zqc, zqb, List.mem_cons, List.not_mem_nil, forall_eq]; done)))
  all_goals (first | (cases s; cases t; simp_all [D.plain]; done))
theorem eqPlaneStepS_ok (a b : List PSt) (hl : a.length ≤ 4294967296) (hx : ∀ x ∈ a, x.q.co.length ≤ 4294967296) : Ctr Try.prog 16 [.slice (a.map D.pst), .slice (b.map D.pst)] false (.d (.bool (decide (a = b)))) [] := by
  refine Ctr.of (n := 27) (rs := [.tmp 4]) Try.func16 rfl rfl Try.ntmps16 rfl rfl (by kernel_rfl) Try.checked.mixed ?_
  simp (disch := first | omega | decide +kernel) only [el_pst, go_sem, zqa, zqb, zqc, zqd, zqe, ↓reduceIte, reduceCtorEq, zqf, zqg, zqh]
  (repeat' (first | ((first | (refine gsel_split (fun q' => ?_) (fun q' => ?_) <;> (have h' := q') <;> (try simp only [decide_eq_true_eq, decide_eq_false_iff_not, zba, zbb, bne_iff_ne, ne_eq, beq_iff_eq, bne_eq_false_iff_eq, beq_eq_false_iff_ne, zia, zib, zic, zid, zda, zbc, zbd, zbe, gt_iff_lt, ge_iff_le] at h')) | (have q' := trivial; first | refine hE _ _ ret_ne ?_ | refine hE _ _ exit_ne ?_)) <;> (try simp (disch := first | omega | decide +kernel) only [q', go_sem, zqa, zqb, zqc, zqd, zqe, ↓reduceIte, reduceCtorEq, zqf, zqg, zqh]) <;> clear q') | (refine hN _ ?_ ?_ Wk.kk) | (with_reducible refine And.intro ?_ ?_) | (with_reducible omega) | (exact ok_ints) | (exact cells_ints) | (exact no_mem) | (with_reducible exact plain_ints) | (refine le_maxLen ?_; omega) | (refine List.forall_mem_cons.2 ⟨?_, ?_⟩) | (simp only [go_sem, zqc, zqb, List.mem_cons, List.not_mem_nil, forall_eq]; done)))
  · have : ¬ a = b := by rintro rfl; simp at h'
    simp [this, D.plain]
  refine Ok.loopC [26, 25, 24, 23, 22, 21, 20, 19, 18, 17, 16, 15, 14, 13, 12, 11, 10, 9, 8, 7, 6, 5, 4, 3, 2] (fun i => [(5, .d (.int .i64 (i : Nat)))]) a.length (fun i => ∀ j, j < i → a.getD j PSt.z = b.getD j PSt.z) (by simp) (Wk.kk) ?_
  intro R i hN hE hi hI
  simp (disch := first | omega | decide +kernel) only [el_pst, go_sem, zqa, zqb, zqc, zqd, zqe, ↓reduceIte, reduceCtorEq, zqf, zqg, zqh]
  by_cases hlt : i < a.length
  · have he := hx _ (getD_mem (z := PSt.z) hlt)
    have hc := eqPlaneStep_ok (a.getD i PSt.z) (b.getD i PSt.z) he
    (repeat' (first | ((first | (refine gsel_split (fun q' => ?_) (fun q' => ?_) <;> (have h' := q') <;> (try simp only [decide_eq_true_eq, decide_eq_false_iff_not, zba, zbb, bne_iff_ne, ne_eq, beq_iff_eq, bne_eq_false_iff_eq, beq_eq_false_iff_ne, zia, zib, zic, zid, zda, zbc, zbd, zbe, gt_iff_lt, ge_iff_le] at h')) | (have q' := trivial; first | refine callX_new (hc) rfl (by decide) ?_ | refine callY_new (hc) rfl ?_ | refine hE _ _ ret_ne ?_ | refine hE _ _ exit_ne ?_)) <;> (try simp (disch := first | omega | decide +kernel) only [q', el_pst, D.ints, go_sem, zqa, zqb, zqc, zqd, zqe, ↓reduceIte, reduceCtorEq, zqf, zqg, zqh]) <;> clear q') | (refine hN _ ?_ ?_ Wk.kk) | (with_reducible refine And.intro ?_ ?_) | (with_reducible omega) | (exact ok_ints) | (exact cells_ints) | (exact no_mem) | (with_reducible exact plain_ints) | (refine le_maxLen ?_; omega) | (refine List.forall_mem_cons.2 ⟨?_, ?_⟩) | (simp only [go_sem, zqc, zqb, List.mem_cons, List.not_mem_nil, forall_eq]; done)))
    · have : ¬ a = b := by rintro rfl; exact h' rfl
      simp [this, D.plain]
    · exact all_succ hI h'
  · (repeat' (first | ((first | (refine gsel_split (fun q' => ?_) (fun q' => ?_) <;> (have h' := q') <;> (try simp only [decide_eq_true_eq, decide_eq_false_iff_not, zba, zbb, bne_iff_ne, ne_eq, beq_iff_eq, bne_eq_false_iff_eq, beq_eq_false_iff_ne, zia, zib, zic, zid, zda, zbc, zbd, zbe, gt_iff_lt, ge_iff_le] at h')) | (have q' := trivial; first | refine hE _ _ ret_ne ?_ | refine hE _ _ exit_ne ?_)) <;> (try simp (disch := first | omega | decide +kernel) only [q', go_sem, zqa, zqb, zqc, zqd, zqe, ↓reduceIte, reduceCtorEq, zqf, zqg, zqh]) <;> clear q') | (refine hN _ ?_ ?_ Wk.kk) | (with_reducible refine And.intro ?_ ?_) | (with_reducible omega) | (exact ok_ints) | (exact cells_ints) | (exact no_mem) | (with_reducible exact plain_ints) | (refine le_maxLen ?_; omega) | (refine List.forall_mem_cons.2 ⟨?_, ?_⟩) | (simp only [go_sem, zqc, zqb, List.mem_cons, List.not_mem_nil, forall_eq]; done)))
    · have : a = b := ext_getDz PSt.z (by omega) fun j hj => hI j (by omega)
      simp [this, D.plain]
theorem markPlaneStepS_ok (τ : Option (TypeId × Nat)) (a : List PSt) (k : Int) (h0 : 0 ≤ k) (h1 : k + lenPS a ≤ 9000000000000000000) (hl : a.length ≤ 4294967296) :
    CtrM Try.prog 17 [.sl 0, .d (.int .i64 k)] [(0, .dp τ (a.map D.pst) none)] [0] false (.d (.int .i64 (k + lenPS a))) [(0, .dp τ ((cntPS a k).map D.pst) none)] := by
  refine CtrM.of (n := 57) (rs := [.tmp 4]) Try.func17 rfl rfl Try.ntmps17 rfl rfl (by kernel_rfl) Try.checked.mixed ?_; intro u
  simp (disch := first | omega | decide +kernel) only [el_pst, go_sem, zqa, zqb, zqc, zqd, zqe, ↓reduceIte, reduceCtorEq, zqf, zqg, zqh]
  refine Ok.loopN [55, 54, 53, 52, 51, 50, 49, 48, 47, 46, 45, 44, 43, 42, 41, 40, 39, 38, 37, 36, 35, 34, 33, 32, 31, 30, 29, 28, 27, 26, 25, 24, 23, 22, 21, 20, 19, 18, 17, 16, 15, 14, 13, 12, 11, 10, 9, 8, 7, 6, 5, 3, 2, 1] (fun i _ => [(5, .d (.int .i64 (i : Nat))), (1, .d (.int .i64 (offPS a k i)))]) (fun _ (cur : List PSt) => [(0, .dp τ (List.map D.pst cur) none)]) a.length
    (fun i cur => cur.length = a.length ∧ (∀ j, j < i → cur.getD j PSt.z = (cntPS a k).getD j PSt.z) ∧ ∀ j, i ≤ j → cur.getD j PSt.z = a.getD j PSt.z) a ⟨rfl, by simp, by simp⟩ (by rw [offPS_zero]; exact (Wk.kk)) ?_
  rintro R i cur hN hE hi ⟨hcl, hcur, hcur2⟩
  simp (disch := first | omega | decide +kernel) only [el_pst, go_sem, zqa, zqb, zqc, zqd, zqe, ↓reduceIte, reduceCtorEq, zqf, zqg, zqh]
  by_cases hlt : i < a.length
  · have hlc : i < cur.length := by omega
    have hg := hcur2 i (Nat.le_refl _)
    have hs := offPS_succ a k i hlt
    have hle := offPS_le a k (i + 1)
    have hnn := offPS_nonneg a i h0
    have hc := markIntS_ok none (a.getD i PSt.z).q.co (offPS a k i) hnn (by omega)
    (repeat' (first | ((first | (refine gsel_split (fun q' => ?_) (fun q' => ?_) <;> (have h' := q') <;> (try simp only [decide_eq_true_eq, decide_eq_false_iff_not, zba, zbb, bne_iff_ne, ne_eq, beq_iff_eq, bne_eq_false_iff_eq, beq_eq_false_iff_ne, zia, zib, zic, zid, zda, zbc, zbd, zbe, gt_iff_lt, ge_iff_le] at h')) | (have q' := trivial; first | refine hE _ _ ret_ne ?_ | refine hE _ _ exit_ne ?_)) <;> (try simp (disch := first | omega | decide +kernel) only [q', el_pst, D.ints, hg, go_sem, zqa, zqb, zqc, zqd, zqe, ↓reduceIte, reduceCtorEq, zqf, zqg, zqh]) <;> clear q') | (refine hN _ ?_ ?_ Wk.kk) | (with_reducible refine And.intro ?_ ?_) | (with_reducible omega) | (exact ok_ints) | (exact cells_ints) | (exact no_mem) | (with_reducible exact plain_ints) | (refine le_maxLen ?_; omega) | (refine List.forall_mem_cons.2 ⟨?_, ?_⟩) | (simp only [go_sem, zqc, zqb, List.mem_cons, List.not_mem_nil, forall_eq]; done)))
    refine callX_keep _ hc ⟨.inl rfl, .inl rfl, trivial⟩ rfl (by simp [dstB]) ?_
    simp (disch := first | omega | decide +kernel) only [el_pst, el_set_map, List.set_set, List.length_set, D.ints, go_sem, zqa, zqb, zqc, zqd, zqe, ↓reduceIte, reduceCtorEq, zqf, zqg, zqh]
    (repeat' (first | ((first | (refine gsel_split (fun q' => ?_) (fun q' => ?_) <;> (have h' := q') <;> (try simp only [decide_eq_true_eq, decide_eq_false_iff_not, zba, zbb, bne_iff_ne, ne_eq, beq_iff_eq, bne_eq_false_iff_eq, beq_eq_false_iff_ne, zia, zib, zic, zid, zda, zbc, zbd, zbe, gt_iff_lt, ge_iff_le] at h')) | (have q' := trivial; first | refine hE _ _ ret_ne ?_ | refine hE _ _ exit_ne ?_)) <;> (try simp (disch := first | omega | decide +kernel) only [q', el_pst, el_set_map, List.set_set, List.length_set, D.ints, hg, go_sem, zqa, zqb, zqc, zqd, zqe, ↓reduceIte, reduceCtorEq, zqf, zqg, zqh]) <;> clear q') | (refine hN _ ?_ ?_ Wk.kk) | (with_reducible refine And.intro ?_ ?_) | (with_reducible omega) | (exact ok_ints) | (exact cells_ints) | (exact no_mem) | (with_reducible exact plain_ints) | (refine le_maxLen ?_; omega) | (refine List.forall_mem_cons.2 ⟨?_, ?_⟩) | (simp only [go_sem, zqc, zqb, List.mem_cons, List.not_mem_nil, forall_eq]; done)))

    refine hN (cur.set i (cntPS1 (a.getD i PSt.z) (offPS a k i))) _ hlt ⟨by simp [hcl], fun j hj => ?_, fun j hj => ?_⟩ (by refine Wk.auto ?_ ?_ <;> simp [extraK, lk, killL, St.kill, wipeO, wipeS, AV.has, AV.hasL, AO.wipe, List.map_set, updSt, insL, dropS, ins, D.pst, D.ints, hs, cntPS1, Int.add_assoc])
    · rw [set_getDz PSt.z _ _ _ _ hlc]
      by_cases e : j = i
      · subst e; rw [if_pos rfl, cntPS_getD _ _ _ hlt]
      · rw [if_neg e]; exact hcur j (by omega)
    · rw [set_getDz PSt.z _ _ _ _ hlc, if_neg (by omega)]; exact hcur2 j (by omega)
  · (repeat' (first | ((first | (refine gsel_split (fun q' => ?_) (fun q' => ?_) <;> (have h' := q') <;> (try simp only [decide_eq_true_eq, decide_eq_false_iff_not, zba, zbb, bne_iff_ne, ne_eq, beq_iff_eq, bne_eq_false_iff_eq, beq_eq_false_iff_ne, zia, zib, zic, zid, zda, zbc, zbd, zbe, gt_iff_lt, ge_iff_le] at h')) | (have q' := trivial; first | refine hE _ _ ret_ne ?_ | refine hE _ _ exit_ne ?_)) <;> (try simp (disch := first | omega | decide +kernel) only [q', go_sem, zqa, zqb, zqc, zqd, zqe, ↓reduceIte, reduceCtorEq, zqf, zqg, zqh]) <;> clear q') | (refine hN _ ?_ ?_ Wk.kk) | (with_reducible refine And.intro ?_ ?_) | (with_reducible omega) | (exact ok_ints) | (exact cells_ints) | (exact no_mem) | (with_reducible exact plain_ints) | (refine le_maxLen ?_; omega) | (refine List.forall_mem_cons.2 ⟨?_, ?_⟩) | (simp only [go_sem, zqc, zqb, List.mem_cons, List.not_mem_nil, forall_eq]; done)))
    · obtain rfl : cur = cntPS a k := ext_getDz PSt.z (by rw [cntPS_len]; exact hcl) fun j hj => hcur j (by omega)
      obtain rfl : i = a.length := by omega
      rw [offPS_len]
      exact retM_d rfl rfl rfl rfl trivial rfl
set_option maxHeartbeats 4000000 in
theorem heldPlaneStepS_ok (a : List PSt) (k : Int) (h0 : 0 ≤ k) (h1 : k + lenPS a ≤ 9000000000000000000) (hl : a.length ≤ 4294967296) :
    Ctr Try.prog 18 [.slice ((cntPS a k).map D.pst), .int .i64 k] false (.d (.int .i64 (k + lenPS a))) [] := by
  have hcl := cntPS_len a k
  refine Ctr.of (n := 69) (rs := [.tmp 4]) Try.func18 rfl rfl Try.ntmps18 rfl rfl (by kernel_rfl) Try.checked.mixed ?_
  simp (disch := first | omega | decide +kernel) only [el_pst, go_sem, zqa, zqb, zqc, zqd, zqe, ↓reduceIte, reduceCtorEq, zqf, zqg, zqh]
  refine Ok.loopN [67, 66, 65, 64, 63, 62, 61, 60, 59, 58, 57, 56, 55, 54, 53, 52, 51, 50, 49, 48, 47, 46, 45, 44, 43, 42, 41, 40, 39, 38, 37, 36, 35, 34, 33, 32, 31, 30, 29, 28, 27, 26, 25, 24, 23, 22, 21, 20, 19, 18, 17, 16, 15, 14, 13, 12, 11, 10, 9, 8, 7, 6, 5, 4, 1] (fun i _ => [(5, .d (.int .i64 (i : Nat))), (1, .d (.int .i64 (offPS a k i)))]) (fun _ (_ : Unit) => []) a.length (fun i _ => True) () trivial (by rw [offPS_zero]; exact (Wk.kk)) ?_
  rintro R i _ hN hE hi _
  by_cases hlt : i < a.length
  · have hg := cntPS_getD a k i hlt
    have hs := offPS_succ a k i hlt
    have hle := offPS_le a k (i + 1)
    have hnn := offPS_nonneg a i h0
    have hc := heldIntS_ok (a.getD i PSt.z).q.co.length (offPS a k i) hnn (by omega)
    unfold cntPS1 at hg
    generalize offPS a k i = q at *
    generalize (a.getD i PSt.z).q.co.length = n at *
    simp (disch := first | omega | decide +kernel) only [el_pst, hg, go_sem, zqa, zqb, zqc, zqd, zqe, ↓reduceIte, reduceCtorEq, zqf, zqg, zqh]
    (repeat' (first | ((first | (refine gsel_split (fun q' => ?_) (fun q' => ?_) <;> (have h' := q') <;> (try simp only [decide_eq_true_eq, decide_eq_false_iff_not, zba, zbb, bne_iff_ne, ne_eq, beq_iff_eq, bne_eq_false_iff_eq, beq_eq_false_iff_ne, zia, zib, zic, zid, zda, zbc, zbd, zbe, gt_iff_lt, ge_iff_le] at h')) | (have q' := trivial; first | refine callX_new (hc) rfl (by decide) ?_ | refine callY_new (hc) rfl ?_ | refine hE _ _ ret_ne ?_ | refine hE _ _ exit_ne ?_)) <;> (try simp (disch := first | omega | decide +kernel) only [q', el_pst, D.ints, hg, Int.add_assoc, go_sem, zqa, zqb, zqc, zqd, zqe, ↓reduceIte, reduceCtorEq, zqf, zqg, zqh]) <;> clear q') | (refine hN _ ?_ ?_ Wk.kk) | (with_reducible refine And.intro ?_ ?_) | (with_reducible omega) | (exact ok_ints) | (exact cells_ints) | (exact no_mem) | (with_reducible exact plain_ints) | (refine le_maxLen ?_; omega) | (refine List.forall_mem_cons.2 ⟨?_, ?_⟩) | (simp only [go_sem, zqc, zqb, List.mem_cons, List.not_mem_nil, forall_eq]; done)))
    all_goals (first | exact absurd trivial h' | omega | exact of_eq_true (bare_ints _) | (exfalso; omega) | skip)
    refine hN () _ hlt trivial (by refine Wk.auto ?_ ?_ <;> simp [extraK, lk, killL, St.kill, wipeO, wipeS, AV.has, AV.hasL, AO.wipe, List.map_set, updSt, insL, dropS, ins, hs, Int.add_assoc])
  · obtain rfl : i = a.length := by omega
    simp (disch := first | omega | decide +kernel) only [el_pst, go_sem, zqa, zqb, zqc, zqd, zqe, ↓reduceIte, reduceCtorEq, zqf, zqg, zqh]
    (repeat' (first | ((first | (refine gsel_split (fun q' => ?_) (fun q' => ?_) <;> (have h' := q') <;> (try simp only [decide_eq_true_eq, decide_eq_false_iff_not, zba, zbb, bne_iff_ne, ne_eq, beq_iff_eq, bne_eq_false_iff_eq, beq_eq_false_iff_ne, zia, zib, zic, zid, zda, zbc, zbd, zbe, gt_iff_lt, ge_iff_le] at h')) | (have q' := trivial; first | refine hE _ _ ret_ne ?_ | refine hE _ _ exit_ne ?_)) <;> (try simp (disch := first | omega | decide +kernel) only [q', go_sem, zqa, zqb, zqc, zqd, zqe, ↓reduceIte, reduceCtorEq, zqf, zqg, zqh]) <;> clear q') | (refine hN _ ?_ ?_ Wk.kk) | (with_reducible refine And.intro ?_ ?_) | (with_reducible omega) | (exact ok_ints) | (exact cells_ints) | (exact no_mem) | (with_reducible exact plain_ints) | (refine le_maxLen ?_; omega) | (refine List.forall_mem_cons.2 ⟨?_, ?_⟩) | (simp only [go_sem, zqc, zqb, List.mem_cons, List.not_mem_nil, forall_eq]; done)))
    all_goals (first | omega | exact of_eq_true (bare_ints _) | skip)
    all_goals (rw [offPS_len])
end Abs.Y
