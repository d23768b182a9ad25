/- What functions of this program compute, as contracts over plain data, with what the proofs need of them. No condition. -/
import Derived.Test.YtfaamimlkogcpaaV15
import Derived.Test.YtfaamimlkogcpaaC4
set_option linter.all false
namespace Abs.Y
open Go Go.Proofs Abs
open Nat renaming reduceEqDiff → zqa, reduceLT → zqb, reduceAdd → zqc, reduceMul → zqd, reduceSub → zqe, reduceLeDiff → zqf, reduceSubDiff → zqg, reduceBEq → zqh
open Bool renaming not_eq_true' → zba, not_eq_false' → zbb, and_eq_true → zbc, or_eq_true → zbd, or_eq_false_iff → zbe
open Int renaming ofNat_lt → zia, ofNat_le → zib, not_lt → zic, not_le → zid
open Decidable renaming not_not → zda
set_option maxRecDepth 100000

section
variable {p : Int} {u : Nat} (hp : 1 < p ∧ p ≤ 5) (hu : u ≤ 6)
include hp hu
theorem l20TimesD_ok {v : List Int} {x : Int} (hv : Vec p (2 ^ u) v) (hx : 1 ≤ x ∧ x ≤ u) :
    Ctr Try.prog 117 [.int .i64 p, .int .i64 u, D.sp v, .int .i64 x] true (.d (D.sp (mulX p u v x))) [] := by
  obtain ⟨k, hk⟩ : ∃ k : Nat, (x - 1).toNat = k := ⟨_, rfl⟩
  have e : IntKind.wrap .i64 (1 * 2 ^ min k 64) = ((2 ^ k : Nat) : Int) := shl_one (by omega)
  have h2 := pow_le6 hu
  have hL := Vec.lit (p := p) hp.1 u x
  have hq : spT (litD p u x) = [(((2 ^ k : Nat) : Int), (1 : Int))] := by
    rw [litD, if_pos (by omega), hk]; exact sp_mono u (by omega) k (by omega)
  have hsv := Tms.len hv.1 h2
  have c2 := l18Mul_ok hp hu (a := spT v) (b := spT (litD p u x)) (by omega) (by have := Tms.len hL.1 h2; omega) (tms_sp hv) (tms_sp hL)
  rw [mul_eq (by omega), hq, show D.tms [(((2 ^ k : Nat) : Int), (1 : Int))] = D.slice [.agg [.int .i64 ((2 ^ k : Nat) : Int), .int .i64 1]] from rfl] at c2
  have hw2 : x - 1 = (k : Int) := by omega
  have hw3 : IntKind.i64.wrap (k : Int) = k := wrap_of (by omega)
  have hpk : 2 ^ k ≤ 64 := pow_le6 (by omega)
  refine Ctr.data1 (sh := false) (e := 84) (k := 2) ?_
  unfold mulX
  generalize mulD p (2 ^ u) v (litD p u x) = W at *
  generalize 2 ^ k = m at *
  refine Ctr.of (n := 18) (rs := [.tmp 8]) Try.func117 rfl rfl Try.ntmps117 rfl rfl (by kernel_rfl) Try.checked.mixed ?_
  simp (disch := first | omega | decide +kernel) only [hw2, hw3, Int.toNat_natCast, e, go_sem, zqa, zqb, zqc, zqd, zqe, ↓reduceIte, reduceCtorEq, zqf, zqg, zqh]
  (repeat' (first | ((first | (refine gsel_split (fun q' => ?_) (fun q' => ?_) <;> (have h' := q') <;> (try simp only [decide_eq_true_eq, decide_eq_false_iff_not, zba, zbb, bne_iff_ne, ne_eq, beq_iff_eq, bne_eq_false_iff_eq, beq_eq_false_iff_ne, zia, zib, zic, zid, zda, zbc, zbd, zbe, gt_iff_lt, ge_iff_le] at h') <;> try (exfalso; omega)) | (have q' := trivial; first | refine callX_new (c2) rfl (by decide) ?_ | refine callY_new (c2) rfl ?_ | refine hE _ _ ret_ne ?_ | refine hE _ _ exit_ne ?_)) <;> (try simp (disch := first | omega | decide +kernel) only [q', hw2, hw3, Int.toNat_natCast, e, go_sem, zqa, zqb, zqc, zqd, zqe, ↓reduceIte, reduceCtorEq, zqf, zqg, zqh]) <;> clear q') | (refine hN _ ?_ ?_ Wk.kk) | (with_reducible refine And.intro ?_ ?_) | (with_reducible omega) | (exact ok_ints) | (exact cells_ints) | (exact no_mem) | (with_reducible exact plain_ints) | (refine le_maxLen ?_; omega) | (refine List.forall_mem_cons.2 ⟨?_, ?_⟩) | (simp only [go_sem, zqc, zqb, List.mem_cons, List.not_mem_nil, forall_eq]; done)))
  all_goals (first | omega | exact ret_sl 1800000 rfl rfl plain_tms)
theorem l18DegreeD_ok {v : List Int} (hv : Vec p (2 ^ u) v) : Ctr Try.prog 116 [D.sp v] false (.d (.int .i64 (degD v))) [] := by
  have h2 := pow_le6 hu
  have c := l18Degree_ok (n := 2 ^ u) (p := p) h2 (a := spT v) (by have := Tms.len hv.1 h2; omega) (tms_sp hv)
  rwa [deg_eq] at c
theorem l20Has_ok {R : List (List Int)} (h : EchB p u R) {t : Bool} (ht : t = true ↔ Sp p (2 ^ u) R (monoD u 0)) : Ctr Try.prog 79 [.slice (R.map D.sp)] false (.d (.bool t)) [] := by
  have h2 := pow_le6 hu
  have hiff := one_first hp.1 hu h
  have hbd := (h.rows hu).bd
  have c1 : Ctr Try.prog 114 [] true (.d (D.slice [.agg [.int .i64 0, .int .i64 1]])) [] := by
    refine Ctr.data1 (sh := false) (e := 84) (k := 2) ?_
    refine Ctr.of (n := 3) (rs := [.tmp 0]) Try.func114 rfl rfl Try.ntmps114 rfl rfl (by kernel_rfl) Try.checked.mixed ?_
    simp (disch := first | omega | decide +kernel) only [go_sem, zqa, zqb, zqc, zqd, zqe, ↓reduceIte, reduceCtorEq, zqf, zqg, zqh]
    (repeat' (first | ((first | (refine gsel_split (fun q' => ?_) (fun q' => ?_) <;> (have h' := q') <;> (try simp only [decide_eq_true_eq, decide_eq_false_iff_not, zba, zbb, bne_iff_ne, ne_eq, beq_iff_eq, bne_eq_false_iff_eq, beq_eq_false_iff_ne, zia, zib, zic, zid, zda, zbc, zbd, zbe, gt_iff_lt, ge_iff_le] at h') <;> try (exfalso; omega)) | (have q' := trivial; first | refine hE _ _ ret_ne ?_ | refine hE _ _ exit_ne ?_)) <;> (try simp (disch := first | omega | decide +kernel) only [q', go_sem, zqa, zqb, zqc, zqd, zqe, ↓reduceIte, reduceCtorEq, zqf, zqg, zqh]) <;> clear q') | (refine hN _ ?_ ?_ Wk.kk) | (with_reducible refine And.intro ?_ ?_) | (with_reducible omega) | (exact ok_ints) | (exact cells_ints) | (exact no_mem) | (with_reducible exact plain_ints) | (refine le_maxLen ?_; omega) | (refine List.forall_mem_cons.2 ⟨?_, ?_⟩) | (simp only [go_sem, zqc, zqb, List.mem_cons, List.not_mem_nil, forall_eq]; done)))
    all_goals (first | omega | exact ret_sl 2 rfl rfl (by simp [D.plain, D.plainL]))
  by_cases h0 : 0 < R.length
  · have hei := el_sp h0
    have hrm : R.getD 0 [] ∈ R := getD_mem (z := ([] : List Int)) h0
    have hr := h.ech.vec _ hrm
    have hlr := Tms.len hr.1 h2
    have c2 := l20Same_ok (spT (R.getD 0 [])) [(0, 1)] (by omega) (by simp)
    rw [show D.tms [((0 : Int), (1 : Int))] = D.slice [.agg [.int .i64 0, .int .i64 1]] from rfl, show decide (spT (R.getD 0 []) = [(0, 1)]) = t from by
      have : (spT (R.getD 0 []) = [(0, 1)]) ↔ t = true := by rw [one_iff hu hr.1, ht, hiff]; exact ⟨fun h => ⟨h0, h⟩, fun h => h.2⟩
      cases t with
      | true => exact decide_eq_true (this.2 rfl)
      | false => exact decide_eq_false fun e => by cases this.1 e] at c2
    clear ht hiff
    refine Ctr.of (n := 13) (rs := [.tmp 2]) Try.func79 rfl rfl Try.ntmps79 rfl rfl (by kernel_rfl) Try.checked.mixed ?_
    simp (disch := first | omega | decide +kernel) only [hei, go_sem, zqa, zqb, zqc, zqd, zqe, ↓reduceIte, reduceCtorEq, zqf, zqg, zqh]
    (repeat' (first | ((first | (refine gsel_split (fun q' => ?_) (fun q' => ?_) <;> (have h' := q') <;> (try simp only [decide_eq_true_eq, decide_eq_false_iff_not, zba, zbb, bne_iff_ne, ne_eq, beq_iff_eq, bne_eq_false_iff_eq, beq_eq_false_iff_ne, zia, zib, zic, zid, zda, zbc, zbd, zbe, gt_iff_lt, ge_iff_le] at h') <;> try (exfalso; omega)) | (have q' := trivial; first | refine callX_shared (c1) rfl (by decide) ?_ | refine callY_shared (c1) rfl ?_ | refine callX_new (c2) rfl (by decide) ?_ | refine callY_new (c2) rfl ?_ | refine hE _ _ ret_ne ?_ | refine hE _ _ exit_ne ?_)) <;> (try simp (disch := first | omega | decide +kernel) only [q', hei, go_sem, zqa, zqb, zqc, zqd, zqe, ↓reduceIte, reduceCtorEq, zqf, zqg, zqh]) <;> clear q') | (refine hN _ ?_ ?_ Wk.kk) | (with_reducible refine And.intro ?_ ?_) | (with_reducible omega) | (exact ok_ints) | (exact cells_ints) | (exact no_mem) | (with_reducible exact plain_ints) | (refine le_maxLen ?_; omega) | (refine List.forall_mem_cons.2 ⟨?_, ?_⟩) | (simp only [go_sem, zqc, zqb, List.mem_cons, List.not_mem_nil, forall_eq]; done)))
    all_goals (first | omega)
  · have hd : t = false := by
      cases t with
      | true => exact absurd (hiff.1 (ht.1 rfl)).1 h0
      | false => rfl
    rw [hd]
    refine Ctr.of (n := 13) (rs := [.tmp 2]) Try.func79 rfl rfl Try.ntmps79 rfl rfl (by kernel_rfl) Try.checked.mixed ?_
    simp (disch := first | omega | decide +kernel) only [go_sem, zqa, zqb, zqc, zqd, zqe, ↓reduceIte, reduceCtorEq, zqf, zqg, zqh]
    (repeat' (first | ((first | (refine gsel_split (fun q' => ?_) (fun q' => ?_) <;> (have h' := q') <;> (try simp only [decide_eq_true_eq, decide_eq_false_iff_not, zba, zbb, bne_iff_ne, ne_eq, beq_iff_eq, bne_eq_false_iff_eq, beq_eq_false_iff_ne, zia, zib, zic, zid, zda, zbc, zbd, zbe, gt_iff_lt, ge_iff_le] at h') <;> try (exfalso; omega)) | (have q' := trivial; first | refine callX_shared (c1) rfl (by decide) ?_ | refine callY_shared (c1) rfl ?_ | refine hE _ _ ret_ne ?_ | refine hE _ _ exit_ne ?_)) <;> (try simp (disch := first | omega | decide +kernel) only [q', go_sem, zqa, zqb, zqc, zqd, zqe, ↓reduceIte, reduceCtorEq, zqf, zqg, zqh]) <;> clear q') | (refine hN _ ?_ ?_ Wk.kk) | (with_reducible refine And.intro ?_ ?_) | (with_reducible omega) | (exact ok_ints) | (exact cells_ints) | (exact no_mem) | (with_reducible exact plain_ints) | (refine le_maxLen ?_; omega) | (refine List.forall_mem_cons.2 ⟨?_, ?_⟩) | (simp only [go_sem, zqc, zqb, List.mem_cons, List.not_mem_nil, forall_eq]; done)))
    all_goals (first | omega)
end
theorem clausesD_succ (p : Int) (u : Nat) (d : Int) (cs : List (List Int)) {i : Nat} (hi : i < cs.length) : clausesD p u d (cs.take (i + 1)) = clausesD p u d (cs.take i) ++ (if ((cs.getD i []).length : Int) ≤ d then [clauseD p u (cs.getD i [])] else []) := by
  unfold clausesD
  rw [take_succ [] cs i hi, List.filter_append, List.map_append]
  congr 1
  by_cases h : ((cs.getD i []).length : Int) ≤ d
  · rw [if_pos h, List.filter_cons_of_pos (by simpa using h)]; rfl
  · rw [if_neg h, List.filter_cons_of_neg (by simpa using h)]; rfl
theorem prods_succ (p : Int) (u : Nat) (d : Int) (R : List (List Int)) {i : Nat} (hi : i < R.length) : prods p u d (R.take (i + 1)) = prods p u d (R.take i) ++ prodsR p u d (R.getD i []) := by
  unfold prods
  rw [take_succ [] R i hi, List.flatMap_append]; simp
def prodsK (p : Int) (u : Nat) (r : List Int) (j : Nat) : List (List Int) := (List.range j).map (fun v => mulX p u r ((v : Nat) + 1 : Int))
theorem prodsK_succ (p : Int) (u : Nat) (r : List Int) (j : Nat) : prodsK p u r (j + 1) = prodsK p u r j ++ [mulX p u r ((j : Int) + 1)] := by
  unfold prodsK; rw [List.range_succ, List.map_append]; rfl
theorem prodsK_all {p : Int} {u : Nat} {d : Int} {r : List Int} (h : degD r < d) : prodsK p u r u = prodsR p u d r := by
  unfold prodsK prodsR; rw [if_pos h]
section
variable {p : Int} {u : Nat} (hp : p = 2 ∨ p = 3 ∨ p = 5) (hu : u ≤ 6)
theorem ok_sp {R : List (List Int)} : ∀ y ∈ R.map D.sp, D.ok 1 y := fun y hy => by
  obtain ⟨r, _, rfl⟩ := List.mem_map.1 hy; exact ⟨rfl, by simp [D.cells, D.atom]⟩
def basR (cs : List (List Int)) (d : Int) : List (List Int) := (keepR p u hp hu).fin cs d []
theorem basR_ok (cs : List (List Int)) (d : Int) : EchB p u (basR hp hu cs d) ∧ ∀ v, Sp p (2 ^ u) (basR hp hu cs d) v ↔ Mn p u cs d v := by
  have h := (keepR p u hp hu).fin_ok (cs := cs) (d := d) (by omega) hu (s := []) EchB.nil rfl
  unfold basR
  generalize (keepR p u hp hu).fin cs d [] = X at *
  exact h
set_option maxHeartbeats 16000000 in
theorem l20Basis_ok {cs : List (List Int)} (hok : okCnf u cs = true) (hcl : cs.length ≤ 1048576) (hc : ∀ j, (cs.getD j []).length ≤ 1048576) (d : Int) :
    Ctr Try.prog 80 [.int .i64 p, .agg [.int .i64 u, .slice (cs.map D.ints)], .int .i64 d] true (.d (.slice ((basR hp hu cs d).map D.sp))) [] := by
  have h2 := pow_le6 hu
  have hp1 : 1 < p ∧ p ≤ 5 := by omega
  have hput : ∀ (R : List (List Int)) (a : List Int), (keepR p u hp hu).put R a = putR p u R a := fun _ _ => rfl
  have hinv : ∀ R : List (List Int), (keepR p u hp hu).inv R = EchB p u R := fun _ => rfl
  refine Ctr.of (n := 96) (rs := [.tmp 6]) Try.func80 rfl rfl Try.ntmps80 rfl rfl (by kernel_rfl) Try.checked.mixed ?_
  simp (disch := first | omega | decide +kernel) only [D.ints, go_sem, zqa, zqb, zqc, zqd, zqe, ↓reduceIte, reduceCtorEq, zqf, zqg, zqh]
  (repeat' (first | ((first | (refine gsel_split (fun q' => ?_) (fun q' => ?_) <;> (have h' := q') <;> (try simp only [decide_eq_true_eq, decide_eq_false_iff_not, zba, zbb, bne_iff_ne, ne_eq, beq_iff_eq, bne_eq_false_iff_eq, beq_eq_false_iff_ne, zia, zib, zic, zid, zda, zbc, zbd, zbe, gt_iff_lt, ge_iff_le] at h') <;> try (exfalso; omega)) | (have q' := trivial; first | refine hE _ _ ret_ne ?_ | refine hE _ _ exit_ne ?_)) <;> (try simp (disch := first | omega | decide +kernel) only [q', D.ints, go_sem, zqa, zqb, zqc, zqd, zqe, ↓reduceIte, reduceCtorEq, zqf, zqg, zqh]) <;> clear q') | (refine hN _ ?_ ?_ Wk.kk) | (with_reducible refine And.intro ?_ ?_) | (with_reducible omega) | (exact ok_ints) | (exact cells_ints) | (exact no_mem) | (with_reducible exact plain_ints) | (refine le_maxLen ?_; omega) | (refine List.forall_mem_cons.2 ⟨?_, ?_⟩) | (simp only [go_sem, zqc, zqb, List.mem_cons, List.not_mem_nil, forall_eq]; done)))
  refine Ok.weak (Wk.frz (j := 15) rfl) ?_
  simp (disch := first | omega | decide +kernel) only [St.frz, frzS, frzO, AV.frz, AV.frzL, AO.frz, go_sem, zqa, zqb, zqc, zqd, zqe, ↓reduceIte, reduceCtorEq, zqf, zqg, zqh]
  refine Ok.loopN [47, 46, 45, 44, 43, 42, 41, 40, 39, 38, 37, 36, 35, 34, 33, 32, 31, 30, 29, 28, 27, 26, 25, 24, 23, 22, 21, 20, 19, 18, 17, 16, 8, 7] (fun i (L : List (List Int)) => [(8, .d (.int .i64 (i : Nat))), (7, .d (.slice (L.map D.sp)))]) (fun _ _ => []) cs.length
    (fun i L => EchB p u L ∧ L = ((keepR p u hp hu).puts ([], false) (clausesD p u d (cs.take i))).1) [] ⟨EchB.nil, rfl⟩ (by refine Wk.auto ?_ ?_ <;> simp [extraK, lk, killL, St.kill, wipeO, wipeS, AV.has, AV.hasL, AO.wipe, List.map_set, updSt, insL, dropS, ins, D.ints, List.map_nil]) ?_
  rintro R0 i L hN hE hi ⟨hL, hLs⟩
  by_cases hlt : i < cs.length
  · have hsu := clausesD_succ p u d cs hlt
    have hci : cs.getD i [] ∈ cs := getD_mem (z := ([] : List Int)) hlt
    have hcx := hc i
    have c1 := l18Clause_ok hp1 hu (c := cs.getD i []) (by omega) (cnf_lits hok hci)
    have hCv := Vec.clause hp1.1 u (cs.getD i [])
    have hei := el_intss (xs := cs) hlt
    by_cases hle : ((cs.getD i []).length : Int) ≤ d
    · rw [if_pos hle] at hsu
      have hs2 : (putR p u L (clauseD p u (cs.getD i []))).1 = ((keepR p u hp hu).puts ([], false) (clausesD p u d (cs.take (i + 1)))).1 := by
        rw [hsu, Keep.puts_snoc, ← hLs, hput]
      have hL2 := (putR_ok hp hu hL hCv).1
      have c2 := Ctr.tupN (ys := [_, _]) (l20Put_ok hp hu hL hCv)
      clear hLs
      generalize clauseD p u (cs.getD i []) = C at *
      generalize putR p u L C = q at *
      simp (disch := first | omega | decide +kernel) only [D.ints, go_sem, zqa, zqb, zqc, zqd, zqe, ↓reduceIte, reduceCtorEq, zqf, zqg, zqh]
      (repeat' (first | ((first | (refine gsel_split (fun q' => ?_) (fun q' => ?_) <;> (have h' := q') <;> (try simp only [decide_eq_true_eq, decide_eq_false_iff_not, zba, zbb, bne_iff_ne, ne_eq, beq_iff_eq, bne_eq_false_iff_eq, beq_eq_false_iff_ne, zia, zib, zic, zid, zda, zbc, zbd, zbe, gt_iff_lt, ge_iff_le] at h') <;> try (exfalso; omega)) | (have q' := trivial; first | refine callX_shared (c1) rfl (by decide) ?_ | refine callY_shared (c1) rfl ?_ | refine callX_shared (c2) rfl (by decide) ?_ | refine callY_shared (c2) rfl ?_ | refine hE _ _ ret_ne ?_ | refine hE _ _ exit_ne ?_)) <;> (try simp (disch := first | omega | decide +kernel) only [q', D.ints, go_sem, zqa, zqb, zqc, zqd, zqe, ↓reduceIte, reduceCtorEq, zqf, zqg, zqh]) <;> clear q') | (refine hN _ ?_ ?_ Wk.kk) | (with_reducible refine And.intro ?_ ?_) | (with_reducible omega) | (exact ok_ints) | (exact cells_ints) | (exact no_mem) | (with_reducible exact plain_ints) | (refine le_maxLen ?_; omega) | (refine List.forall_mem_cons.2 ⟨?_, ?_⟩) | (simp only [go_sem, zqc, zqb, List.mem_cons, List.not_mem_nil, forall_eq]; done)))
      all_goals (first | omega | (refine hN q.1 _ hlt ⟨hL2, hs2⟩ (by refine Wk.auto ?_ ?_ <;> simp [extraK, lk, killL, St.kill, wipeO, wipeS, AV.has, AV.hasL, AO.wipe, List.map_set, updSt, insL, dropS, ins, D.ints]); done))
    · rw [if_neg hle, List.append_nil] at hsu
      rw [← hsu] at hLs
      simp (disch := first | omega | decide +kernel) only [D.ints, go_sem, zqa, zqb, zqc, zqd, zqe, ↓reduceIte, reduceCtorEq, zqf, zqg, zqh]
      (repeat' (first | ((first | (refine gsel_split (fun q' => ?_) (fun q' => ?_) <;> (have h' := q') <;> (try simp only [decide_eq_true_eq, decide_eq_false_iff_not, zba, zbb, bne_iff_ne, ne_eq, beq_iff_eq, bne_eq_false_iff_eq, beq_eq_false_iff_ne, zia, zib, zic, zid, zda, zbc, zbd, zbe, gt_iff_lt, ge_iff_le] at h') <;> try (exfalso; omega)) | (have q' := trivial; first | refine hE _ _ ret_ne ?_ | refine hE _ _ exit_ne ?_)) <;> (try simp (disch := first | omega | decide +kernel) only [q', D.ints, go_sem, zqa, zqb, zqc, zqd, zqe, ↓reduceIte, reduceCtorEq, zqf, zqg, zqh]) <;> clear q') | (refine hN _ ?_ ?_ Wk.kk) | (with_reducible refine And.intro ?_ ?_) | (with_reducible omega) | (exact ok_ints) | (exact cells_ints) | (exact no_mem) | (with_reducible exact plain_ints) | (refine le_maxLen ?_; omega) | (refine List.forall_mem_cons.2 ⟨?_, ?_⟩) | (simp only [go_sem, zqc, zqb, List.mem_cons, List.not_mem_nil, forall_eq]; done)))
      all_goals (first | omega | (refine hN L _ hlt ⟨hL, hLs⟩ (by refine Wk.auto ?_ ?_ <;> simp [extraK, lk, killL, St.kill, wipeO, wipeS, AV.has, AV.hasL, AO.wipe, List.map_set, updSt, insL, dropS, ins, D.ints]); done))
  · obtain rfl : i = cs.length := by omega
    rw [List.take_length] at hLs
    obtain ⟨L0, hL0⟩ : ∃ L0, L0 = (keepR p u hp hu).base cs d [] := ⟨_, rfl⟩
    have hLb : L = L0 := by rw [hLs, hL0]; rfl
    rw [← hLb] at hL0
    clear hLs hN hLb
    have hfin : ((keepR p u hp hu).it d L 65).1 = basR hp hu cs d := by unfold basR Keep.fin; rw [hL0]
    have hit := fun i => (keepR p u hp hu).it_inv hp1.1 (d := d) (s := L) hL i
    simp only [hinv] at hit
    have hbd := fun i => (keepR p u hp hu).it_bd hp1.1 hu (d := d) (s := L) hL (i := i)
    have hend := fun i => (keepR p u hp hu).it_end hp1.1 hu (d := d) (s := L) hL (i := i)
    simp only [hfin] at hend
    clear hfin hL0
    simp (disch := first | omega | decide +kernel) only [D.ints, go_sem, zqa, zqb, zqc, zqd, zqe, ↓reduceIte, reduceCtorEq, zqf, zqg, zqh]
    (repeat' (first | ((first | (refine gsel_split (fun q' => ?_) (fun q' => ?_) <;> (have h' := q') <;> (try simp only [decide_eq_true_eq, decide_eq_false_iff_not, zba, zbb, bne_iff_ne, ne_eq, beq_iff_eq, bne_eq_false_iff_eq, beq_eq_false_iff_ne, zia, zib, zic, zid, zda, zbc, zbd, zbe, gt_iff_lt, ge_iff_le] at h') <;> try (exfalso; omega)) | (have q' := trivial; first | refine hE _ _ ret_ne ?_ | refine hE _ _ exit_ne ?_)) <;> (try simp (disch := first | omega | decide +kernel) only [q', D.ints, go_sem, zqa, zqb, zqc, zqd, zqe, ↓reduceIte, reduceCtorEq, zqf, zqg, zqh]) <;> clear q') | (refine hN _ ?_ ?_ Wk.kk) | (with_reducible refine And.intro ?_ ?_) | (with_reducible omega) | (exact ok_ints) | (exact cells_ints) | (exact no_mem) | (with_reducible exact plain_ints) | (refine le_maxLen ?_; omega) | (refine List.forall_mem_cons.2 ⟨?_, ?_⟩) | (simp only [go_sem, zqc, zqb, List.mem_cons, List.not_mem_nil, forall_eq]; done)))
    all_goals (first | omega | skip)
    refine Ok.loopN [94, 93, 92, 91, 90, 89, 88, 87, 86, 85, 84, 83, 82, 81, 80, 79, 78, 77, 76, 75, 74, 73, 72, 71, 70, 69, 68, 67, 66, 65, 64, 63, 62, 61, 60, 59, 58, 57, 56, 55, 54, 53, 52, 51, 50, 49, 48, 14, 13, 12, 11, 10, 9, 7] (fun _ (q : List (List Int) × Bool) => [(9, .d (.bool q.2)), (7, .d (.slice (q.1.map D.sp)))]) (fun _ _ => []) 66
      (fun i q => q = (keepR p u hp hu).it d L i) (L, true) rfl (by refine Wk.auto ?_ ?_ <;> simp [extraK, lk, killL, St.kill, wipeO, wipeS, AV.has, AV.hasL, AO.wipe, List.map_set, updSt, insL, dropS, ins, D.ints]) ?_
    rintro R1 k ⟨A, b⟩ hN hE hk hq
    have hAi := hit k
    have hbk := hbd k
    have hek := hend k
    have hqs : (keepR p u hp hu).it d L (k + 1) = (keepR p u hp hu).puts (A, false) (prods p u d A) := by
      show (keepR p u hp hu).round d ((keepR p u hp hu).it d L k).1 = _
      rw [← hq]; rfl
    rw [← hq] at hAi hbk hek
    simp only at hAi hbk hek
    clear hq hit hbd hend
    cases b with
    | false =>
      have e := hek rfl
      rw [← e] at hE
      simp (disch := first | omega | decide +kernel) only [D.ints, go_sem, zqa, zqb, zqc, zqd, zqe, ↓reduceIte, reduceCtorEq, zqf, zqg, zqh]
      (repeat' (first | ((first | (refine gsel_split (fun q' => ?_) (fun q' => ?_) <;> (have h' := q') <;> (try simp only [decide_eq_true_eq, decide_eq_false_iff_not, zba, zbb, bne_iff_ne, ne_eq, beq_iff_eq, bne_eq_false_iff_eq, beq_eq_false_iff_ne, zia, zib, zic, zid, zda, zbc, zbd, zbe, gt_iff_lt, ge_iff_le] at h') <;> try (exfalso; omega)) | (have q' := trivial; first | refine hE _ _ ret_ne ?_ | refine hE _ _ exit_ne ?_)) <;> (try simp (disch := first | omega | decide +kernel) only [q', D.ints, go_sem, zqa, zqb, zqc, zqd, zqe, ↓reduceIte, reduceCtorEq, zqf, zqg, zqh]) <;> clear q') | (refine hN _ ?_ ?_ Wk.kk) | (with_reducible refine And.intro ?_ ?_) | (with_reducible omega) | (exact ok_ints) | (exact cells_ints) | (exact no_mem) | (with_reducible exact plain_ints) | (refine le_maxLen ?_; omega) | (refine List.forall_mem_cons.2 ⟨?_, ?_⟩) | (simp only [go_sem, zqc, zqb, List.mem_cons, List.not_mem_nil, forall_eq]; done)))
      all_goals (first | omega | exact ret_s1 [] rfl)
    | true =>
      have hk64 := hbk rfl
      clear hbk hek
      have hAl := (hAi.rows hu).bd
      have hAv := (hAi.rows hu).vec
      have hN1 := hN
      clear hN
      simp (disch := first | omega | decide +kernel) only [D.ints, go_sem, zqa, zqb, zqc, zqd, zqe, ↓reduceIte, reduceCtorEq, zqf, zqg, zqh]
      (repeat' (first | ((first | (refine gsel_split (fun q' => ?_) (fun q' => ?_) <;> (have h' := q') <;> (try simp only [decide_eq_true_eq, decide_eq_false_iff_not, zba, zbb, bne_iff_ne, ne_eq, beq_iff_eq, bne_eq_false_iff_eq, beq_eq_false_iff_ne, zia, zib, zic, zid, zda, zbc, zbd, zbe, gt_iff_lt, ge_iff_le] at h') <;> try (exfalso; omega)) | (have q' := trivial; first | refine hE _ _ ret_ne ?_ | refine hE _ _ exit_ne ?_)) <;> (try simp (disch := first | omega | decide +kernel) only [q', D.ints, go_sem, zqa, zqb, zqc, zqd, zqe, ↓reduceIte, reduceCtorEq, zqf, zqg, zqh]) <;> clear q') | (refine hN _ ?_ ?_ Wk.kk) | (with_reducible refine And.intro ?_ ?_) | (with_reducible omega) | (exact ok_ints) | (exact cells_ints) | (exact no_mem) | (with_reducible exact plain_ints) | (refine le_maxLen ?_; omega) | (refine List.forall_mem_cons.2 ⟨?_, ?_⟩) | (simp only [go_sem, zqc, zqb, List.mem_cons, List.not_mem_nil, forall_eq]; done)))
      all_goals (first | omega | exact ok_sp | skip)
      refine Ok.weak (Wk.frz (j := 49) rfl) ?_
      simp (disch := first | omega | decide +kernel) only [St.frz, frzS, frzO, AV.frz, AV.frzL, AO.frz, go_sem, zqa, zqb, zqc, zqd, zqe, ↓reduceIte, reduceCtorEq, zqf, zqg, zqh]
      refine Ok.loopN [94, 93, 92, 91, 90, 89, 88, 87, 86, 85, 84, 83, 82, 81, 80, 79, 78, 77, 76, 75, 74, 73, 72, 71, 70, 69, 68, 67, 66, 65, 64, 63, 62, 61, 60, 59, 58, 57, 56, 55, 54, 53, 52, 14, 13, 12, 11, 9, 7] (fun i (q : List (List Int) × Bool) => [(11, .d (.int .i64 (i : Nat))), (9, .d (.bool q.2)), (7, .d (.slice (q.1.map D.sp)))]) (fun _ _ => []) A.length
        (fun i q => EchB p u q.1 ∧ q = (keepR p u hp hu).puts (A, false) (prods p u d (A.take i))) (A, false) ⟨hAi, rfl⟩ (by refine Wk.auto ?_ ?_ <;> simp [extraK, lk, killL, St.kill, wipeO, wipeS, AV.has, AV.hasL, AO.wipe, List.map_set, updSt, insL, dropS, ins, D.ints]) ?_
      rintro R2 i ⟨L1, b1⟩ hN0 hE0 hi2 ⟨hL1, hq1⟩
      simp only at hL1
      by_cases hlt2 : i < A.length
      · have hpr := prods_succ p u d A hlt2
        have hrm : A.getD i [] ∈ A := getD_mem (z := ([] : List Int)) hlt2
        have hr := hAv _ hrm
        have hei := el_sp hlt2
        have c1 := l18DegreeD_ok hp1 hu hr
        have hT := fun x hx => l20TimesD_ok hp1 hu (v := A.getD i []) (x := x) hr hx
        have hdb : -1 ≤ degD (A.getD i []) ∧ degD (A.getD i []) ≤ 6 := by rw [← deg_eq]; exact degT_bd _
        have hpk := prodsK_all (p := p) (u := u) (d := d) (r := A.getD i [])
        have hpn : ¬ degD (A.getD i []) < d → prodsR p u d (A.getD i []) = [] := fun h => by unfold prodsR; rw [if_neg h]
        generalize A.getD i [] = r at *
        by_cases hd : degD r < d
        · rw [← hpk hd] at hpr
          clear hpk hpn
          have hX : ∀ x, Vec p (2 ^ u) (mulX p u r x) := fun x => Vec.mulD (by omega) _ _ _
          generalize degD r = dr at *
          simp (disch := first | omega | decide +kernel) only [hei, go_sem, zqa, zqb, zqc, zqd, zqe, ↓reduceIte, reduceCtorEq, zqf, zqg, zqh]
          (repeat' (first | ((first | (refine gsel_split (fun q' => ?_) (fun q' => ?_) <;> (have h' := q') <;> (try simp only [decide_eq_true_eq, decide_eq_false_iff_not, zba, zbb, bne_iff_ne, ne_eq, beq_iff_eq, bne_eq_false_iff_eq, beq_eq_false_iff_ne, zia, zib, zic, zid, zda, zbc, zbd, zbe, gt_iff_lt, ge_iff_le] at h') <;> try (exfalso; omega)) | (have q' := trivial; first | refine hE _ _ ret_ne ?_ | refine hE _ _ exit_ne ?_)) <;> (try simp (disch := first | omega | decide +kernel) only [q', hei, go_sem, zqa, zqb, zqc, zqd, zqe, ↓reduceIte, reduceCtorEq, zqf, zqg, zqh]) <;> clear q') | (refine hN _ ?_ ?_ Wk.kk) | (with_reducible refine And.intro ?_ ?_) | (with_reducible omega) | (exact ok_ints) | (exact cells_ints) | (exact no_mem) | (with_reducible exact plain_ints) | (refine le_maxLen ?_; omega) | (refine List.forall_mem_cons.2 ⟨?_, ?_⟩) | (simp only [go_sem, zqc, zqb, List.mem_cons, List.not_mem_nil, forall_eq]; done)))
          all_goals (first | omega | skip)
          refine Ok.loopN [94, 93, 92, 91, 90, 89, 88, 87, 86, 85, 84, 83, 82, 81, 80, 79, 78, 77, 76, 75, 74, 73, 72, 71, 70, 69, 68, 67, 66, 65, 64, 63, 62, 61, 60, 59, 58, 14, 13, 12, 9, 7] (fun j (q : List (List Int) × Bool) => [(12, .d (.int .i64 ((j : Nat) + 1 : Int))), (9, .d (.bool q.2)), (7, .d (.slice (q.1.map D.sp)))]) (fun _ _ => []) u
            (fun j q => EchB p u q.1 ∧ q = (keepR p u hp hu).puts (L1, b1) (prodsK p u r j)) (L1, b1) ⟨hL1, rfl⟩ (by refine Wk.auto ?_ ?_ <;> simp [extraK, lk, killL, St.kill, wipeO, wipeS, AV.has, AV.hasL, AO.wipe, List.map_set, updSt, insL, dropS, ins, D.ints]) ?_
          rintro R3 j ⟨L2, b2⟩ hN hE hj ⟨hL2, hq2⟩
          simp only at hL2
          by_cases hjt : j < u
          · have hk := prodsK_succ p u r j
            have hq3 : ((putR p u L2 (mulX p u r ((j : Int) + 1))).1, b2 || (putR p u L2 (mulX p u r ((j : Int) + 1))).2) = (keepR p u hp hu).puts (L1, b1) (prodsK p u r (j + 1)) := by
              rw [hk, Keep.puts_snoc, ← hq2, hput]
            have c2 := hT ((j : Int) + 1) (by omega)
            have hXj := hX ((j : Int) + 1)
            have hL3 := (putR_ok hp hu hL2 hXj).1
            have c3 := Ctr.tupN (ys := [_, _]) (l20Put_ok hp hu hL2 hXj)
            clear hq2 hq1 hk hT hX
            generalize mulX p u r ((j : Int) + 1) = w at *
            generalize hpq : putR p u L2 w = q at *
            obtain ⟨q1, q2⟩ := q
            simp only at hq3 c3 hL3
            cases b2 with
            | false =>
              simp (disch := first | omega | decide +kernel) only [D.ints, hei, go_sem, zqa, zqb, zqc, zqd, zqe, ↓reduceIte, reduceCtorEq, zqf, zqg, zqh]
              (repeat' (first | ((first | (refine gsel_split (fun q' => ?_) (fun q' => ?_) <;> (have h' := q') <;> (try simp only [decide_eq_true_eq, decide_eq_false_iff_not, zba, zbb, bne_iff_ne, ne_eq, beq_iff_eq, bne_eq_false_iff_eq, beq_eq_false_iff_ne, zia, zib, zic, zid, zda, zbc, zbd, zbe, gt_iff_lt, ge_iff_le] at h') <;> try (exfalso; omega)) | (have q' := trivial; first | refine callX_new (c1) rfl (by decide) ?_ | refine callY_new (c1) rfl ?_ | refine callX_shared (c2) rfl (by decide) ?_ | refine callY_shared (c2) rfl ?_ | refine callX_shared (c3) rfl (by decide) ?_ | refine callY_shared (c3) rfl ?_ | refine hE _ _ ret_ne ?_ | refine hE _ _ exit_ne ?_)) <;> (try simp (disch := first | omega | decide +kernel) only [q', D.ints, hei, go_sem, zqa, zqb, zqc, zqd, zqe, ↓reduceIte, reduceCtorEq, zqf, zqg, zqh]) <;> clear q') | (refine hN _ ?_ ?_ Wk.kk) | (with_reducible refine And.intro ?_ ?_) | (with_reducible omega) | (exact ok_ints) | (exact cells_ints) | (exact no_mem) | (with_reducible exact plain_ints) | (refine le_maxLen ?_; omega) | (refine List.forall_mem_cons.2 ⟨?_, ?_⟩) | (simp only [go_sem, zqc, zqb, List.mem_cons, List.not_mem_nil, forall_eq]; done)))
              all_goals (first | omega | (refine hN (q1, q2) _ hjt ⟨hL3, hq3⟩ (by refine Wk.auto ?_ ?_ <;> simp [extraK, lk, killL, St.kill, wipeO, wipeS, AV.has, AV.hasL, AO.wipe, List.map_set, updSt, insL, dropS, ins, D.ints]); done))
            | true =>
              simp (disch := first | omega | decide +kernel) only [D.ints, hei, go_sem, zqa, zqb, zqc, zqd, zqe, ↓reduceIte, reduceCtorEq, zqf, zqg, zqh]
              (repeat' (first | ((first | (refine gsel_split (fun q' => ?_) (fun q' => ?_) <;> (have h' := q') <;> (try simp only [decide_eq_true_eq, decide_eq_false_iff_not, zba, zbb, bne_iff_ne, ne_eq, beq_iff_eq, bne_eq_false_iff_eq, beq_eq_false_iff_ne, zia, zib, zic, zid, zda, zbc, zbd, zbe, gt_iff_lt, ge_iff_le] at h') <;> try (exfalso; omega)) | (have q' := trivial; first | refine callX_new (c1) rfl (by decide) ?_ | refine callY_new (c1) rfl ?_ | refine callX_shared (c2) rfl (by decide) ?_ | refine callY_shared (c2) rfl ?_ | refine callX_shared (c3) rfl (by decide) ?_ | refine callY_shared (c3) rfl ?_ | refine hE _ _ ret_ne ?_ | refine hE _ _ exit_ne ?_)) <;> (try simp (disch := first | omega | decide +kernel) only [q', D.ints, hei, go_sem, zqa, zqb, zqc, zqd, zqe, ↓reduceIte, reduceCtorEq, zqf, zqg, zqh]) <;> clear q') | (refine hN _ ?_ ?_ Wk.kk) | (with_reducible refine And.intro ?_ ?_) | (with_reducible omega) | (exact ok_ints) | (exact cells_ints) | (exact no_mem) | (with_reducible exact plain_ints) | (refine le_maxLen ?_; omega) | (refine List.forall_mem_cons.2 ⟨?_, ?_⟩) | (simp only [go_sem, zqc, zqb, List.mem_cons, List.not_mem_nil, forall_eq]; done)))
              all_goals (first | omega | (refine hN (q1, true) _ hjt ⟨hL3, hq3⟩ (by refine Wk.auto ?_ ?_ <;> simp [extraK, lk, killL, St.kill, wipeO, wipeS, AV.has, AV.hasL, AO.wipe, List.map_set, updSt, insL, dropS, ins, D.ints]); done))
          · obtain rfl : u = j := by omega
            have hq4 : (L2, b2) = (keepR p u hp hu).puts (A, false) (prods p u d (A.take (i + 1))) := by rw [hpr, Keep.puts_app, ← hq1, hq2]
            clear hq2 hq1 hT hX
            simp (disch := first | omega | decide +kernel) only [D.ints, hei, go_sem, zqa, zqb, zqc, zqd, zqe, ↓reduceIte, reduceCtorEq, zqf, zqg, zqh]
            (repeat' (first | ((first | (refine gsel_split (fun q' => ?_) (fun q' => ?_) <;> (have h' := q') <;> (try simp only [decide_eq_true_eq, decide_eq_false_iff_not, zba, zbb, bne_iff_ne, ne_eq, beq_iff_eq, bne_eq_false_iff_eq, beq_eq_false_iff_ne, zia, zib, zic, zid, zda, zbc, zbd, zbe, gt_iff_lt, ge_iff_le] at h') <;> try (exfalso; omega)) | (have q' := trivial; first | refine callX_new (c1) rfl (by decide) ?_ | refine callY_new (c1) rfl ?_ | refine hE _ _ ret_ne ?_ | refine hE _ _ exit_ne ?_)) <;> (try simp (disch := first | omega | decide +kernel) only [q', D.ints, hei, go_sem, zqa, zqb, zqc, zqd, zqe, ↓reduceIte, reduceCtorEq, zqf, zqg, zqh]) <;> clear q') | (refine hN _ ?_ ?_ Wk.kk) | (with_reducible refine And.intro ?_ ?_) | (with_reducible omega) | (exact ok_ints) | (exact cells_ints) | (exact no_mem) | (with_reducible exact plain_ints) | (refine le_maxLen ?_; omega) | (refine List.forall_mem_cons.2 ⟨?_, ?_⟩) | (simp only [go_sem, zqc, zqb, List.mem_cons, List.not_mem_nil, forall_eq]; done)))
            all_goals (first | omega | (refine hN0 (L2, b2) _ hlt2 ⟨hL2, hq4⟩ (by refine Wk.auto ?_ ?_ <;> simp [extraK, lk, killL, St.kill, wipeO, wipeS, AV.has, AV.hasL, AO.wipe, List.map_set, updSt, insL, dropS, ins, D.ints]); done))
        · rw [hpn hd, List.append_nil] at hpr
          rw [← hpr] at hq1
          clear hpk hpn hT
          generalize degD r = dr at *
          simp (disch := first | omega | decide +kernel) only [hei, go_sem, zqa, zqb, zqc, zqd, zqe, ↓reduceIte, reduceCtorEq, zqf, zqg, zqh]
          (repeat' (first | ((first | (refine gsel_split (fun q' => ?_) (fun q' => ?_) <;> (have h' := q') <;> (try simp only [decide_eq_true_eq, decide_eq_false_iff_not, zba, zbb, bne_iff_ne, ne_eq, beq_iff_eq, bne_eq_false_iff_eq, beq_eq_false_iff_ne, zia, zib, zic, zid, zda, zbc, zbd, zbe, gt_iff_lt, ge_iff_le] at h') <;> try (exfalso; omega)) | (have q' := trivial; first | refine hE _ _ ret_ne ?_ | refine hE _ _ exit_ne ?_)) <;> (try simp (disch := first | omega | decide +kernel) only [q', hei, go_sem, zqa, zqb, zqc, zqd, zqe, ↓reduceIte, reduceCtorEq, zqf, zqg, zqh]) <;> clear q') | (refine hN _ ?_ ?_ Wk.kk) | (with_reducible refine And.intro ?_ ?_) | (with_reducible omega) | (exact ok_ints) | (exact cells_ints) | (exact no_mem) | (with_reducible exact plain_ints) | (refine le_maxLen ?_; omega) | (refine List.forall_mem_cons.2 ⟨?_, ?_⟩) | (simp only [go_sem, zqc, zqb, List.mem_cons, List.not_mem_nil, forall_eq]; done)))
          all_goals (first | omega | skip)
          refine Ok.loopN [94, 93, 92, 91, 90, 89, 88, 87, 86, 85, 84, 83, 82, 81, 80, 79, 78, 77, 76, 75, 74, 73, 72, 71, 70, 69, 68, 67, 66, 65, 64, 63, 62, 61, 60, 59, 58, 14, 13, 12, 9, 7] (fun j (_ : Unit) => [(12, .d (.int .i64 ((j : Nat) + 1 : Int))), (9, .d (.bool b1)), (7, .d (.slice (L1.map D.sp)))]) (fun _ _ => []) 1
            (fun j _ => j = 0) () rfl (by refine Wk.auto ?_ ?_ <;> simp [extraK, lk, killL, St.kill, wipeO, wipeS, AV.has, AV.hasL, AO.wipe, List.map_set, updSt, insL, dropS, ins, D.ints]) ?_
          rintro R3 j ⟨⟩ hN hE hj hj0
          subst hj0
          clear hN
          simp (disch := first | omega | decide +kernel) only [D.ints, hei, go_sem, zqa, zqb, zqc, zqd, zqe, ↓reduceIte, reduceCtorEq, zqf, zqg, zqh]
          (repeat' (first | ((first | (refine gsel_split (fun q' => ?_) (fun q' => ?_) <;> (have h' := q') <;> (try simp only [decide_eq_true_eq, decide_eq_false_iff_not, zba, zbb, bne_iff_ne, ne_eq, beq_iff_eq, bne_eq_false_iff_eq, beq_eq_false_iff_ne, zia, zib, zic, zid, zda, zbc, zbd, zbe, gt_iff_lt, ge_iff_le] at h') <;> try (exfalso; omega)) | (have q' := trivial; first | refine callX_new (c1) rfl (by decide) ?_ | refine callY_new (c1) rfl ?_ | refine hE _ _ ret_ne ?_ | refine hE _ _ exit_ne ?_)) <;> (try simp (disch := first | omega | decide +kernel) only [q', D.ints, hei, go_sem, zqa, zqb, zqc, zqd, zqe, ↓reduceIte, reduceCtorEq, zqf, zqg, zqh]) <;> clear q') | (refine hN _ ?_ ?_ Wk.kk) | (with_reducible refine And.intro ?_ ?_) | (with_reducible omega) | (exact ok_ints) | (exact cells_ints) | (exact no_mem) | (with_reducible exact plain_ints) | (refine le_maxLen ?_; omega) | (refine List.forall_mem_cons.2 ⟨?_, ?_⟩) | (simp only [go_sem, zqc, zqb, List.mem_cons, List.not_mem_nil, forall_eq]; done)))
          all_goals (first | omega | (refine hN0 (L1, b1) _ hlt2 ⟨hL1, hq1⟩ (by refine Wk.auto ?_ ?_ <;> simp [extraK, lk, killL, St.kill, wipeO, wipeS, AV.has, AV.hasL, AO.wipe, List.map_set, updSt, insL, dropS, ins, D.ints]); done))
      · obtain rfl : i = A.length := by omega
        rw [List.take_length, ← hqs] at hq1
        have hE := hE0
        simp (disch := first | omega | decide +kernel) only [D.ints, go_sem, zqa, zqb, zqc, zqd, zqe, ↓reduceIte, reduceCtorEq, zqf, zqg, zqh]
        (repeat' (first | ((first | (refine gsel_split (fun q' => ?_) (fun q' => ?_) <;> (have h' := q') <;> (try simp only [decide_eq_true_eq, decide_eq_false_iff_not, zba, zbb, bne_iff_ne, ne_eq, beq_iff_eq, bne_eq_false_iff_eq, beq_eq_false_iff_ne, zia, zib, zic, zid, zda, zbc, zbd, zbe, gt_iff_lt, ge_iff_le] at h') <;> try (exfalso; omega)) | (have q' := trivial; first | refine hE _ _ ret_ne ?_ | refine hE _ _ exit_ne ?_)) <;> (try simp (disch := first | omega | decide +kernel) only [q', D.ints, go_sem, zqa, zqb, zqc, zqd, zqe, ↓reduceIte, reduceCtorEq, zqf, zqg, zqh]) <;> clear q') | (refine hN _ ?_ ?_ Wk.kk) | (with_reducible refine And.intro ?_ ?_) | (with_reducible omega) | (exact ok_ints) | (exact cells_ints) | (exact no_mem) | (with_reducible exact plain_ints) | (refine le_maxLen ?_; omega) | (refine List.forall_mem_cons.2 ⟨?_, ?_⟩) | (simp only [go_sem, zqc, zqb, List.mem_cons, List.not_mem_nil, forall_eq]; done)))
        all_goals (first | omega | (refine hN1 (L1, b1) _ (by omega) hq1 (by refine Wk.auto ?_ ?_ <;> simp [extraK, lk, killL, St.kill, wipeO, wipeS, AV.has, AV.hasL, AO.wipe, List.map_set, updSt, insL, dropS, ins, D.ints]); done))
end
end Abs.Y
