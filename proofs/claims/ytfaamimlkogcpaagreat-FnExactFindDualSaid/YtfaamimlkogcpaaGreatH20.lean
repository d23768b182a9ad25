/- What functions of this program compute, as contracts over plain data, with what the proofs need of them. No condition. -/
import Derived.Test.YtfaamimlkogcpaaGreatH19
import Derived.Test.YtfaamimlkogcpaaGreatM1p
set_option linter.all false
namespace Abs.Y
open Go Go.Proofs Abs
open Nat renaming reduceEqDiff → zqa, reduceLT → zqb, reduceAdd → zqc, reduceMul → zqd, reduceSub → zqe, reduceLeDiff → zqf, reduceSubDiff → zqg, reduceBEq → zqh
open Bool renaming not_eq_true' → zba, not_eq_false' → zbb, and_eq_true → zbc, or_eq_true → zbd, or_eq_false_iff → zbe
open Int renaming ofNat_lt → zia, ofNat_le → zib, not_lt → zic, not_le → zid
open Decidable renaming not_not → zda
set_option maxRecDepth 100000

def askD (p v : Int) (cs : List (List Int)) (d : Int) : Bool := (primeB p v && okCnf v cs) && degB d
def dualW (p v : Int) (cs : List (List Int)) (d : Int) (t : Bool) : List Int := if dualB (askD p v cs d) t then dualP p v.toNat cs d else []
theorem implDual_ok (p v : Int) (cs : List (List Int)) (d : Int) (hcl : cs.length ≤ 1048576) (hc : ∀ j, (cs.getD j []).length ≤ 1048576) {t : Bool} (ht : ∀ u : Nat, v = u → (t = true ↔ Sp p (2 ^ u) (prodsP p u (gradN (2 ^ u)) cs d) (monoD u 0))) :
    Ctr Tryz.prog 7 [.int .i64 p, .agg [.int .i64 v, .slice (cs.map D.ints)], .int .i64 d] false (.tup [.sl 0, .d (.bool (dualB (askD p v cs d) t))]) [(0, .arr 3 1 ((dualW p v cs d t).map (.int .i64)))] := by
  have c2 := degreeOk_ok d
  cases h1 : primeB p v && okCnf v cs with
  | false =>
    have e : askD p v cs d = false := by unfold askD; rw [h1]; rfl
    have c1 := algebraBad_ok p v cs h1 (by omega) (fun j => by have := hc j; omega)
    unfold dualW
    rw [e]
    simp only [dualB, Bool.false_and, Bool.false_eq_true, if_false]
    refine Ctr.of (n := 90) (rs := [.tmp 6, .tmp 7]) Tryz.func7 rfl rfl Tryz.ntmps7 rfl rfl (by kernel_rfl) Tryz.checked.mixed ?_
    simp (disch := first | omega | decide +kernel) only [go_sem, zqa, zqb, zqc, zqd, zqe, ↓reduceIte, reduceCtorEq, zqf, zqg, zqh]
    (repeat' (first | ((first | (refine gsel_split (fun q' => ?_) (fun q' => ?_) <;> (have h' := q') <;> (try simp only [decide_eq_true_eq, decide_eq_false_iff_not, zba, zbb, bne_iff_ne, ne_eq, beq_iff_eq, bne_eq_false_iff_eq, beq_eq_false_iff_ne, zia, zib, zic, zid, zda, zbc, zbd, zbe, gt_iff_lt, ge_iff_le] at h') <;> try (exfalso; omega)) | (have q' := trivial; first | refine callX_shared (c1) rfl (by decide) ?_ | refine callY_shared (c1) rfl ?_ | refine hE _ _ ret_ne ?_ | refine hE _ _ exit_ne ?_)) <;> (try simp (disch := first | omega | decide +kernel) only [q', go_sem, zqa, zqb, zqc, zqd, zqe, ↓reduceIte, reduceCtorEq, zqf, zqg, zqh]) <;> clear q') | (refine hN _ ?_ ?_ Wk.kk) | (with_reducible refine And.intro ?_ ?_) | (with_reducible omega) | (exact ok_ints) | (exact cells_ints) | (exact no_mem) | (with_reducible exact plain_ints) | (refine le_maxLen ?_; omega) | (refine List.forall_mem_cons.2 ⟨?_, ?_⟩) | (simp only [go_sem, zqc, zqb, List.mem_cons, List.not_mem_nil, forall_eq]; done)))
    all_goals (first | omega | (first | exact ret_sld _ rfl rfl rfl plain_ints rfl | exact ret_sld _ rfl rfl rfl no_mem rfl))
  | true =>
    have hpo := h1
    rw [zbc] at hpo
    obtain ⟨hp, hv⟩ := primeB_235 hpo.1
    obtain ⟨u, rfl⟩ : ∃ u : Nat, v = u := ⟨v.toNat, by omega⟩
    have hu : u ≤ 6 := by omega
    cases h2 : degB d with
    | false =>
      have e : askD p u cs d = false := by unfold askD; rw [h1, h2]; rfl
      have c1 := algebraOf_ok (p := p) (by omega) hu hpo.1 hpo.2 (by omega) (fun j => by have := hc j; omega)
      rw [h2] at c2
      unfold dualW
      rw [e]
      simp only [dualB, Bool.false_and, Bool.false_eq_true, if_false]
      refine Ctr.of (n := 90) (rs := [.tmp 6, .tmp 7]) Tryz.func7 rfl rfl Tryz.ntmps7 rfl rfl (by kernel_rfl) Tryz.checked.mixed ?_
      simp (disch := first | omega | decide +kernel) only [go_sem, zqa, zqb, zqc, zqd, zqe, ↓reduceIte, reduceCtorEq, zqf, zqg, zqh]
      (repeat' (first | ((first | (refine gsel_split (fun q' => ?_) (fun q' => ?_) <;> (have h' := q') <;> (try simp only [decide_eq_true_eq, decide_eq_false_iff_not, zba, zbb, bne_iff_ne, ne_eq, beq_iff_eq, bne_eq_false_iff_eq, beq_eq_false_iff_ne, zia, zib, zic, zid, zda, zbc, zbd, zbe, gt_iff_lt, ge_iff_le] at h') <;> try (exfalso; omega)) | (have q' := trivial; first | refine callX_shared (c1) rfl (by decide) ?_ | refine callY_shared (c1) rfl ?_ | refine callX_new (c2) rfl (by decide) ?_ | refine callY_new (c2) rfl ?_ | refine hE _ _ ret_ne ?_ | refine hE _ _ exit_ne ?_)) <;> (try simp (disch := first | omega | decide +kernel) only [q', go_sem, zqa, zqb, zqc, zqd, zqe, ↓reduceIte, reduceCtorEq, zqf, zqg, zqh]) <;> clear q') | (refine hN _ ?_ ?_ Wk.kk) | (with_reducible refine And.intro ?_ ?_) | (with_reducible omega) | (exact ok_ints) | (exact cells_ints) | (exact no_mem) | (with_reducible exact plain_ints) | (refine le_maxLen ?_; omega) | (refine List.forall_mem_cons.2 ⟨?_, ?_⟩) | (simp only [go_sem, zqc, zqb, List.mem_cons, List.not_mem_nil, forall_eq]; done)))
      all_goals (first | omega | (first | exact ret_sld _ rfl rfl rfl plain_ints rfl | exact ret_sld _ rfl rfl rfl no_mem rfl))
    | true =>
      have e : askD p u cs d = true := by unfold askD; rw [h1, h2]; rfl
      have hd : 0 ≤ d ∧ d ≤ 6 := by simpa [degB] using h2
      have h := implDualT_ok hp hu hpo hd hcl hc (ht u rfl)
      unfold dualW
      rw [e, Int.toNat_natCast]
      cases t
      · exact h
      · exact h
theorem specDual_ok (p v : Int) (cs : List (List Int)) (d : Int) (hcl : cs.length ≤ 1048576) (hc : ∀ j, (cs.getD j []).length ≤ 1048576) {t : Bool} (ht : ∀ u : Nat, v = u → (t = true ↔ Sp p (2 ^ u) (prodsP p u (gradN (2 ^ u)) cs d) (monoD u 0))) :
    Ctr Tryz.prog 5 [.int .i64 p, .agg [.int .i64 v, .slice (cs.map D.ints)], .int .i64 d] false (.tup [.sl 0, .d (.bool (dualB (askD p v cs d) t))]) [(0, .arr 3 1 ((dualW p v cs d t).map (.int .i64)))] := by
  have c1 := l19Takes_ok p v cs (by omega) (fun j => by have := hc j; omega)
  rw [bool_comm2] at c1
  have c2 := l19Degree_ok d
  cases h1 : primeB p v && okCnf v cs with
  | false =>
    have e : askD p v cs d = false := by unfold askD; rw [h1]; rfl
    rw [h1] at c1
    unfold dualW
    rw [e]
    simp only [dualB, Bool.false_and, Bool.false_eq_true, if_false]
    refine Ctr.of (n := 196) (rs := [.tmp 6, .tmp 7]) Tryz.func5 rfl rfl Tryz.ntmps5 rfl rfl (by kernel_rfl) Tryz.checked.mixed ?_
    simp (disch := first | omega | decide +kernel) only [go_sem, zqa, zqb, zqc, zqd, zqe, ↓reduceIte, reduceCtorEq, zqf, zqg, zqh]
    (repeat' (first | ((first | (refine gsel_split (fun q' => ?_) (fun q' => ?_) <;> (have h' := q') <;> (try simp only [decide_eq_true_eq, decide_eq_false_iff_not, zba, zbb, bne_iff_ne, ne_eq, beq_iff_eq, bne_eq_false_iff_eq, beq_eq_false_iff_ne, zia, zib, zic, zid, zda, zbc, zbd, zbe, gt_iff_lt, ge_iff_le] at h') <;> try (exfalso; omega)) | (have q' := trivial; first | refine callX_new (c1) rfl (by decide) ?_ | refine callY_new (c1) rfl ?_ | refine hE _ _ ret_ne ?_ | refine hE _ _ exit_ne ?_)) <;> (try simp (disch := first | omega | decide +kernel) only [q', go_sem, zqa, zqb, zqc, zqd, zqe, ↓reduceIte, reduceCtorEq, zqf, zqg, zqh]) <;> clear q') | (refine hN _ ?_ ?_ Wk.kk) | (with_reducible refine And.intro ?_ ?_) | (with_reducible omega) | (exact ok_ints) | (exact cells_ints) | (exact no_mem) | (with_reducible exact plain_ints) | (refine le_maxLen ?_; omega) | (refine List.forall_mem_cons.2 ⟨?_, ?_⟩) | (simp only [go_sem, zqc, zqb, List.mem_cons, List.not_mem_nil, forall_eq]; done)))
    all_goals (first | omega | (first | exact ret_sld _ rfl rfl rfl plain_ints rfl | exact ret_sld _ rfl rfl rfl no_mem rfl))
  | true =>
    rw [h1] at c1
    have hpo := h1
    rw [zbc] at hpo
    obtain ⟨hp, hv⟩ := primeB_235 hpo.1
    obtain ⟨u, rfl⟩ : ∃ u : Nat, v = u := ⟨v.toNat, by omega⟩
    have hu : u ≤ 6 := by omega
    cases h2 : degB d with
    | false =>
      have e : askD p u cs d = false := by unfold askD; rw [h1, h2]; rfl
      rw [h2] at c2
      unfold dualW
      rw [e]
      simp only [dualB, Bool.false_and, Bool.false_eq_true, if_false]
      refine Ctr.of (n := 196) (rs := [.tmp 6, .tmp 7]) Tryz.func5 rfl rfl Tryz.ntmps5 rfl rfl (by kernel_rfl) Tryz.checked.mixed ?_
      simp (disch := first | omega | decide +kernel) only [go_sem, zqa, zqb, zqc, zqd, zqe, ↓reduceIte, reduceCtorEq, zqf, zqg, zqh]
      (repeat' (first | ((first | (refine gsel_split (fun q' => ?_) (fun q' => ?_) <;> (have h' := q') <;> (try simp only [decide_eq_true_eq, decide_eq_false_iff_not, zba, zbb, bne_iff_ne, ne_eq, beq_iff_eq, bne_eq_false_iff_eq, beq_eq_false_iff_ne, zia, zib, zic, zid, zda, zbc, zbd, zbe, gt_iff_lt, ge_iff_le] at h') <;> try (exfalso; omega)) | (have q' := trivial; first | refine callX_new (c1) rfl (by decide) ?_ | refine callY_new (c1) rfl ?_ | refine callX_new (c2) rfl (by decide) ?_ | refine callY_new (c2) rfl ?_ | refine hE _ _ ret_ne ?_ | refine hE _ _ exit_ne ?_)) <;> (try simp (disch := first | omega | decide +kernel) only [q', go_sem, zqa, zqb, zqc, zqd, zqe, ↓reduceIte, reduceCtorEq, zqf, zqg, zqh]) <;> clear q') | (refine hN _ ?_ ?_ Wk.kk) | (with_reducible refine And.intro ?_ ?_) | (with_reducible omega) | (exact ok_ints) | (exact cells_ints) | (exact no_mem) | (with_reducible exact plain_ints) | (refine le_maxLen ?_; omega) | (refine List.forall_mem_cons.2 ⟨?_, ?_⟩) | (simp only [go_sem, zqc, zqb, List.mem_cons, List.not_mem_nil, forall_eq]; done)))
      all_goals (first | omega | (first | exact ret_sld _ rfl rfl rfl plain_ints rfl | exact ret_sld _ rfl rfl rfl no_mem rfl))
    | true =>
      have e : askD p u cs d = true := by unfold askD; rw [h1, h2]; rfl
      have hd : 0 ≤ d ∧ d ≤ 6 := by simpa [degB] using h2
      have h := specDualT_ok hp hu hpo hd hcl hc (ht u rfl)
      unfold dualW
      rw [e, Int.toNat_natCast]
      cases t
      · exact h
      · exact h
set_option maxHeartbeats 8000000 in
theorem law_FindDual : ∀ xs, AllR [isI64, isSt [isI64, isSl (isSl isI64)], isI64] xs → Ctr Tryz.prog 3 xs false (.d (.bool true)) [] := by
  intro xs hx
  obtain ⟨x0, ys, rfl, h0, hx⟩ := allR_cons hx
  obtain ⟨x1, ys, rfl, h1, hx⟩ := allR_cons hx
  obtain ⟨x2, ys, rfl, h2, hx⟩ := allR_cons hx
  obtain rfl := allR_nil hx
  obtain ⟨p, rfl, _⟩ := h0
  obtain ⟨v, cs, rfl, hcl, hcx⟩ := r_cnf h1
  obtain ⟨d, rfl, _⟩ := h2
  have e1 := szS_szF szI_szF cs 1048576 (by omega)
  have s1 := szCnf_ok v cs 1048576 hcl hcx ⟨by omega, by omega⟩
  by_cases hz1 : szS szI cs 1048576 < 0
  · refine Ctr.of (n := 106) (rs := [.tmp 6]) Tryz.func3 rfl rfl Tryz.ntmps3 rfl rfl (by kernel_rfl) Tryz.checked.mixed ?_
    simp (disch := first | omega | decide +kernel) only [go_sem, zqa, zqb, zqc, zqd, zqe, ↓reduceIte, reduceCtorEq, zqf, zqg, zqh]
    (repeat' (first | ((first | (refine gsel_split (fun q' => ?_) (fun q' => ?_) <;> (have h' := q') <;> (try simp only [decide_eq_true_eq, decide_eq_false_iff_not, zba, zbb, bne_iff_ne, ne_eq, beq_iff_eq, bne_eq_false_iff_eq, beq_eq_false_iff_ne, zia, zib, zic, zid, zda, zbc, zbd, zbe, gt_iff_lt, ge_iff_le] at h')) | (have q' := trivial; first | refine callX_new (s1) rfl (by decide) ?_ | refine callY_new (s1) rfl ?_ | refine hE _ _ ret_ne ?_ | refine hE _ _ exit_ne ?_)) <;> (try simp (disch := first | omega | decide +kernel) only [q', go_sem, zqa, zqb, zqc, zqd, zqe, ↓reduceIte, reduceCtorEq, zqf, zqg, zqh]) <;> clear q') | (refine hN _ ?_ ?_ Wk.kk) | (with_reducible refine And.intro ?_ ?_) | (with_reducible omega) | (exact ok_ints) | (exact cells_ints) | (exact no_mem) | (with_reducible exact plain_ints) | (refine le_maxLen ?_; omega) | (refine List.forall_mem_cons.2 ⟨?_, ?_⟩) | (simp only [go_sem, zqc, zqb, List.mem_cons, List.not_mem_nil, forall_eq]; done)))
  have l1 := szS_len (f := szI) (a := cs) (left := 1048576) (by omega)
  have x1 : ∀ x ∈ cs, x.length ≤ 1048576 := fun x hx => by
    obtain ⟨y, h3, h4, h5⟩ := szS_each szI_szF (a := cs) (left := 1048576) (by omega) x hx
    have := szI_len h5; omega
  have hc : ∀ j, (cs.getD j []).length ≤ 1048576 := fun j => by
    by_cases hj : j < cs.length
    · exact x1 _ (getD_mem hj)
    · rw [List.getD_eq_getElem?_getD, List.getElem?_eq_none (by omega)]; simp
  have hcl' : cs.length ≤ 4294967296 := by omega
  have hcs : ∀ x ∈ cs, x.length ≤ 4294967296 := fun x hx => Nat.le_trans (x1 x hx) (by omega)
  have t1 := toCnf_ok v cs hcl' hcs
  have q1 := eqCnf_ok v v cs cs hcl' hcs
  obtain ⟨t, ht⟩ := bool_ex (Sp p (2 ^ v.toNat) (prodsP p v.toNat (gradN (2 ^ v.toNat)) cs d) (monoD v.toNat 0))
  have ht2 : ∀ u : Nat, v = u → (t = true ↔ Sp p (2 ^ u) (prodsP p u (gradN (2 ^ u)) cs d) (monoD u 0)) := fun u hu => by
    subst hu
    rwa [Int.toNat_natCast] at ht
  have d1 := toCnfd_ok v cs hcl' hcs
  have c1 := specDual_ok p v cs d (by omega) hc ht2
  have c2 := (implDual_ok p v cs d (by omega) hc ht2).deep (by rw [bare_ints]; trivial)
  have hR : (dualW p v cs d t).length ≤ 64 := by
    unfold dualW
    split
    · rename_i hb
      have hb2 : askD p v cs d = true := by
        unfold dualB at hb
        rw [zbc] at hb; exact hb.1
      unfold askD at hb2
      rw [zbc, zbc] at hb2
      obtain ⟨hp, hv⟩ := primeB_235 hb2.1.1
      unfold dualP
      rw [(dual_vec (p := p) (by omega) v.toNat _).1]
      exact pow_le6 (by omega)
    · simp
  have hlen := lenSS_bound (a := cs) (B := 1048576) x1
  have m1 := fun τ => markCnf_ok τ v cs 1 (by omega) (by omega) hcl'
  clear ht ht2
  generalize dualW p v cs d t = R at *
  generalize dualB (askD p v cs d) t = B at *
  have q0 := eqIntS_ok R R (by omega)
  have m3 := fun τ => markIntS_ok τ R 1 (by omega) (by omega)
  have hh := heldIntS_ok R.length 1 (by omega) (by omega)
  clear e1 hz1 h1
  refine Ctr.of (n := 106) (rs := [.tmp 6]) Tryz.func3 rfl rfl Tryz.ntmps3 rfl rfl (by kernel_rfl) Tryz.checked.mixed ?_
  simp (disch := first | omega | decide +kernel) only [go_sem, zqa, zqb, zqc, zqd, zqe, ↓reduceIte, reduceCtorEq, zqf, zqg, zqh]
  (repeat' (first | ((first | (refine gsel_split (fun q' => ?_) (fun q' => ?_) <;> (have h' := q') <;> (try simp only [decide_eq_true_eq, decide_eq_false_iff_not, zba, zbb, bne_iff_ne, ne_eq, beq_iff_eq, bne_eq_false_iff_eq, beq_eq_false_iff_ne, zia, zib, zic, zid, zda, zbc, zbd, zbe, gt_iff_lt, ge_iff_le] at h')) | (have q' := trivial; first | refine callX_new (s1) rfl (by decide) ?_ | refine callY_new (s1) rfl ?_ | refine callX_new (d1) rfl (by decide) ?_ | refine callY_new (d1) rfl ?_ | refine callX_new (c1) rfl (by decide) ?_ | refine callY_new (c1) rfl ?_ | refine callX_new (c2) rfl (by decide) ?_ | refine callY_new (c2) rfl ?_ | refine callX_new (q0) rfl (by decide) ?_ | refine callY_new (q0) rfl ?_ | refine callX_new (q1) rfl (by decide) ?_ | refine callY_new (q1) rfl ?_ | refine callX_keep _ (m1 _) ⟨.inl rfl, .inl rfl, trivial⟩ rfl (by simp [dstB]) ?_ | refine callX_keep _ (m3 _) ⟨.inl rfl, .inl rfl, trivial⟩ rfl (by simp [dstB]) ?_ | refine callX_new (hh) rfl (by decide) ?_ | refine callY_new (hh) rfl ?_ | refine callX_shared (t1) rfl (by decide) ?_ | refine callY_shared (t1) rfl ?_ | refine hE _ _ ret_ne ?_ | refine hE _ _ exit_ne ?_)) <;> (try simp (disch := first | omega | decide +kernel) only [q', go_sem, zqa, zqb, zqc, zqd, zqe, ↓reduceIte, reduceCtorEq, zqf, zqg, zqh]) <;> clear q') | (refine hN _ ?_ ?_ Wk.kk) | (with_reducible refine And.intro ?_ ?_) | (with_reducible omega) | (exact ok_ints) | (exact cells_ints) | (exact no_mem) | (with_reducible exact plain_ints) | (refine le_maxLen ?_; omega) | (refine List.forall_mem_cons.2 ⟨?_, ?_⟩) | (simp only [go_sem, zqc, zqb, List.mem_cons, List.not_mem_nil, forall_eq]; done)))
  all_goals (first | exact absurd trivial h' | omega)
end Abs.Y
