/- What functions of this program compute, as contracts over plain data, with what the proofs need of them. No condition. -/
import Derived.Test.YtoppjihdipidiaaC5
import Derived.Test.YtoppjihdipidiaaC6
import Derived.Test.YtoppjihdipidiaaM1p
set_option linter.all false
namespace Abs.Y
open Go Go.Proofs Abs
set_option maxRecDepth 100000

/-! ### The law of PcDegree -/
theorem r_tm2 {x : D} (h : isSt [isI64, isI64] x) : ∃ t : Tm, x = D.tm t := by
  obtain ⟨es, rfl, hl, he⟩ := h
  match es, hl with
  | [e0, e1], _ =>
    obtain ⟨a, ha, _⟩ := he 0 (by simp)
    obtain ⟨b, hb, _⟩ := he 1 (by simp)
    simp only [List.getD_cons_zero, List.getD_cons_succ] at ha hb
    subst ha; subst hb
    exact ⟨(a, b), rfl⟩
theorem r_tms2 {x : D} (h : isSl (isSt [isI64, isI64]) x) : ∃ a : List Tm, x = D.tms a ∧ a.length ≤ 9223372036854775807 := by
  obtain ⟨es, rfl, hl, he⟩ := h
  obtain ⟨a, rfl, _⟩ := map_ex D.tm (Q := fun _ => True) he fun e h => by obtain ⟨t, ht⟩ := r_tm2 h; exact ⟨t, ht, trivial⟩
  exact ⟨a, rfl, by rw [maxLen_eq] at hl; simpa using hl⟩
theorem r_pc {x : D} (h : isSt [isI64, isSl (isSt [isI64, isI64]), isI64, isI64, isI64, isI64] x) : ∃ s : PcS, x = D.pc s ∧ s.poly.length ≤ 9223372036854775807 := by
  obtain ⟨es, rfl, hl, he⟩ := h
  match es, hl with
  | [e0, e1, e2, e3, e4, e5], _ =>
    obtain ⟨a0, h0, _⟩ := he 0 (by simp)
    obtain ⟨a1, h1, hl1⟩ := r_tms2 (he 1 (by simp))
    obtain ⟨a2, h2, _⟩ := he 2 (by simp)
    obtain ⟨a3, h3, _⟩ := he 3 (by simp)
    obtain ⟨a4, h4, _⟩ := he 4 (by simp)
    obtain ⟨a5, h5, _⟩ := he 5 (by simp)
    simp only [List.getD_cons_zero, List.getD_cons_succ] at h0 h1 h2 h3 h4 h5
    subst h0; subst h1; subst h2; subst h3; subst h4; subst h5
    exact ⟨⟨a0, a1, a2, a3, a4, a5⟩, rfl, hl1⟩
theorem r_pcs {x : D} (h : isSl (isSt [isI64, isSl (isSt [isI64, isI64]), isI64, isI64, isI64, isI64]) x) : ∃ a : List PcS, x = .slice (a.map D.pc) ∧ a.length ≤ 9223372036854775807 ∧ ∀ y ∈ a, y.poly.length ≤ 9223372036854775807 := by
  obtain ⟨es, rfl, hl, he⟩ := h
  obtain ⟨a, rfl, ha⟩ := map_ex D.pc he fun e h => r_pc h
  exact ⟨a, rfl, by rw [maxLen_eq] at hl; simpa using hl, ha⟩
set_option maxHeartbeats 4000000 in
theorem law_PcDegree : ∀ xs, AllR [isI64, isSt [isI64, isSl (isSl isI64)], isSl (isSt [isI64, isSl (isSt [isI64, isI64]), isI64, isI64, isI64, isI64])] xs → Ctr Try.prog 3 xs false (.d (.bool true)) [] := by
  intro xs hx
  obtain ⟨x0, ys, rfl, h0, hx⟩ := allR_cons hx
  obtain ⟨x1, ys, rfl, h1, hx⟩ := allR_cons hx
  obtain ⟨x2, ys, rfl, h2, hx⟩ := allR_cons hx
  obtain rfl := allR_nil hx
  obtain ⟨p, rfl, _⟩ := h0
  obtain ⟨v, cs, rfl, hcl, hcx⟩ := r_cnf h1
  obtain ⟨st, rfl, hll, hlx⟩ := r_pcs h2
  have e1 := szS_szF szI_szF cs 1048576 (by omega)
  have s1 := szCnf_ok v cs 1048576 hcl hcx ⟨by omega, by omega⟩
  by_cases hz1 : szS szI cs 1048576 < 0
  · refine Ctr.of (n := 62) (rs := [.tmp 6]) Try.func3 rfl rfl Try.ntmps3 rfl rfl (by kernel_rfl) Try.checked.mixed ?_
    simp (disch := first | omega | decide +kernel) only [go_sem, Nat.reduceEqDiff, Nat.reduceLT, Nat.reduceAdd, Nat.reduceMul, Nat.reduceSub, ↓reduceIte, reduceCtorEq, Nat.reduceLeDiff, Nat.reduceSubDiff, Nat.reduceBEq]
    (repeat' (first | (refine gsel_split (fun h => ?_) (fun h => ?_) <;> (have h' := h) <;> (try simp only [decide_eq_true_eq, decide_eq_false_iff_not, Bool.not_eq_true', Bool.not_eq_false', bne_iff_ne, ne_eq, beq_iff_eq, bne_eq_false_iff_eq, beq_eq_false_iff_ne, Int.ofNat_lt, Int.ofNat_le, Int.not_lt, Int.not_le, Decidable.not_not, Bool.and_eq_true, Bool.or_eq_true, Bool.or_eq_false_iff, gt_iff_lt, ge_iff_le] at h') <;> simp (disch := first | omega | decide +kernel) only [h, go_sem, Nat.reduceEqDiff, Nat.reduceLT, Nat.reduceAdd, Nat.reduceMul, Nat.reduceSub, ↓reduceIte, reduceCtorEq, Nat.reduceLeDiff, Nat.reduceSubDiff, Nat.reduceBEq] <;> clear h) | ((first | refine callX_new (s1) rfl (by decide) ?_ | refine callY_new (s1) rfl ?_ | refine hE _ _ ret_ne ?_ | refine hE _ _ exit_ne ?_) <;> try simp (disch := first | omega | decide +kernel) only [go_sem, Nat.reduceEqDiff, Nat.reduceLT, Nat.reduceAdd, Nat.reduceMul, Nat.reduceSub, ↓reduceIte, reduceCtorEq, Nat.reduceLeDiff, Nat.reduceSubDiff, Nat.reduceBEq]) | (refine hN _ ?_ ?_ Wk.kk) | (with_reducible refine And.intro ?_ ?_) | (with_reducible omega) | (exact ok_ints) | (exact cells_ints) | (exact no_mem) | (with_reducible exact plain_ints) | (refine le_maxLen ?_; omega) | (refine List.forall_mem_cons.2 ⟨?_, ?_⟩) | (simp only [go_sem, Nat.reduceAdd, Nat.reduceLT, List.mem_cons, List.not_mem_nil, forall_eq]; done)))
  have s2 := szPcStepS_ok st (szS szI cs 1048576) hll hlx ⟨by omega, by omega⟩
  by_cases hz2 : szS szPc st (szS szI cs 1048576) < 0
  · refine Ctr.of (n := 62) (rs := [.tmp 6]) Try.func3 rfl rfl Try.ntmps3 rfl rfl (by kernel_rfl) Try.checked.mixed ?_
    simp (disch := first | omega | decide +kernel) only [go_sem, Nat.reduceEqDiff, Nat.reduceLT, Nat.reduceAdd, Nat.reduceMul, Nat.reduceSub, ↓reduceIte, reduceCtorEq, Nat.reduceLeDiff, Nat.reduceSubDiff, Nat.reduceBEq]
    (repeat' (first | (refine gsel_split (fun h => ?_) (fun h => ?_) <;> (have h' := h) <;> (try simp only [decide_eq_true_eq, decide_eq_false_iff_not, Bool.not_eq_true', Bool.not_eq_false', bne_iff_ne, ne_eq, beq_iff_eq, bne_eq_false_iff_eq, beq_eq_false_iff_ne, Int.ofNat_lt, Int.ofNat_le, Int.not_lt, Int.not_le, Decidable.not_not, Bool.and_eq_true, Bool.or_eq_true, Bool.or_eq_false_iff, gt_iff_lt, ge_iff_le] at h') <;> simp (disch := first | omega | decide +kernel) only [h, go_sem, Nat.reduceEqDiff, Nat.reduceLT, Nat.reduceAdd, Nat.reduceMul, Nat.reduceSub, ↓reduceIte, reduceCtorEq, Nat.reduceLeDiff, Nat.reduceSubDiff, Nat.reduceBEq] <;> clear h) | ((first | refine callX_new (s1) rfl (by decide) ?_ | refine callY_new (s1) rfl ?_ | refine callX_new (s2) rfl (by decide) ?_ | refine callY_new (s2) rfl ?_ | refine hE _ _ ret_ne ?_ | refine hE _ _ exit_ne ?_) <;> try simp (disch := first | omega | decide +kernel) only [go_sem, Nat.reduceEqDiff, Nat.reduceLT, Nat.reduceAdd, Nat.reduceMul, Nat.reduceSub, ↓reduceIte, reduceCtorEq, Nat.reduceLeDiff, Nat.reduceSubDiff, Nat.reduceBEq]) | (refine hN _ ?_ ?_ Wk.kk) | (with_reducible refine And.intro ?_ ?_) | (with_reducible omega) | (exact ok_ints) | (exact cells_ints) | (exact no_mem) | (with_reducible exact plain_ints) | (refine le_maxLen ?_; omega) | (refine List.forall_mem_cons.2 ⟨?_, ?_⟩) | (simp only [go_sem, Nat.reduceAdd, Nat.reduceLT, List.mem_cons, List.not_mem_nil, forall_eq]; done)))
  have l1 := szS_len (f := szI) (a := cs) (left := 1048576) (by omega)
  have l2 := szS_len (f := szPc) (a := st) (left := szS szI cs 1048576) (by omega)
  have x1 : ∀ x ∈ cs, x.length ≤ 1048576 := fun x hx => by
    obtain ⟨y, h3, h4, h5⟩ := szS_each szI_szF (a := cs) (left := 1048576) (by omega) x hx
    have := szI_len h5; omega
  have x2 : ∀ x ∈ st, x.poly.length ≤ 1048576 := fun x hx => by
    obtain ⟨y, h3, h4, h5⟩ := szS_each szPc_szF (a := st) (left := szS szI cs 1048576) (by omega) x hx
    have := szT_len h5; omega
  have hc : ∀ j, (cs.getD j []).length ≤ 1048576 := fun j => by
    by_cases hj : j < cs.length
    · exact x1 _ (getD_mem hj)
    · rw [List.getD_eq_getElem?_getD, List.getElem?_eq_none (by omega)]; simp
  have hsx : ∀ j, (st.getD j PcS.z).poly.length ≤ 1048576 := fun j => by
    by_cases hj : j < st.length
    · exact x2 _ (getD_mem hj)
    · rw [List.getD_eq_getElem?_getD, List.getElem?_eq_none (by omega)]; simp [PcS.z]
  have hcl' : cs.length ≤ 4294967296 := by omega
  have hll' : st.length ≤ 4294967296 := by omega
  have hcs : ∀ x ∈ cs, x.length ≤ 4294967296 := fun x hx => Nat.le_trans (x1 x hx) (by omega)
  have hlx' : ∀ x ∈ st, x.poly.length ≤ 4294967296 := fun x hx => Nat.le_trans (x2 x hx) (by omega)
  have t1 := toCnf_ok v cs hcl' hcs
  have t2 := Ctr.data1 (toPcStepS_ok st hll' hlx')
  have q1 := eqCnf_ok v v cs cs hcl' hcs
  have q2 := eqPcStepS_ok st st hll' hlx'
  have c1 := specPD_ok p v cs st (by omega) hc (by omega) hsx
  have c2 := implPD_ok p v cs st (by omega) hc (by omega) hsx
  generalize (if goodPc p v cs st = true then degPc v.toNat st st.length else 0) = V at *
  generalize goodPc p v cs st = B at *
  clear e1 hz1 hz2 h1 h2
  refine Ctr.of (n := 62) (rs := [.tmp 6]) Try.func3 rfl rfl Try.ntmps3 rfl rfl (by kernel_rfl) Try.checked.mixed ?_
  simp (disch := first | omega | decide +kernel) only [go_sem, Nat.reduceEqDiff, Nat.reduceLT, Nat.reduceAdd, Nat.reduceMul, Nat.reduceSub, ↓reduceIte, reduceCtorEq, Nat.reduceLeDiff, Nat.reduceSubDiff, Nat.reduceBEq]
  (repeat' (first | (refine gsel_split (fun h => ?_) (fun h => ?_) <;> (have h' := h) <;> (try simp only [decide_eq_true_eq, decide_eq_false_iff_not, Bool.not_eq_true', Bool.not_eq_false', bne_iff_ne, ne_eq, beq_iff_eq, bne_eq_false_iff_eq, beq_eq_false_iff_ne, Int.ofNat_lt, Int.ofNat_le, Int.not_lt, Int.not_le, Decidable.not_not, Bool.and_eq_true, Bool.or_eq_true, Bool.or_eq_false_iff, gt_iff_lt, ge_iff_le] at h') <;> simp (disch := first | omega | decide +kernel) only [h, go_sem, Nat.reduceEqDiff, Nat.reduceLT, Nat.reduceAdd, Nat.reduceMul, Nat.reduceSub, ↓reduceIte, reduceCtorEq, Nat.reduceLeDiff, Nat.reduceSubDiff, Nat.reduceBEq] <;> clear h) | ((first | refine callX_new (s1) rfl (by decide) ?_ | refine callY_new (s1) rfl ?_ | refine callX_new (s2) rfl (by decide) ?_ | refine callY_new (s2) rfl ?_ | refine callX_new (c1) rfl (by decide) ?_ | refine callY_new (c1) rfl ?_ | refine callX_new (c2) rfl (by decide) ?_ | refine callY_new (c2) rfl ?_ | refine callX_new (q1) rfl (by decide) ?_ | refine callY_new (q1) rfl ?_ | refine callX_new (q2) rfl (by decide) ?_ | refine callY_new (q2) rfl ?_ | refine callX_shared (t1) rfl (by decide) ?_ | refine callY_shared (t1) rfl ?_ | refine callX_shared (t2) rfl (by decide) ?_ | refine callY_shared (t2) rfl ?_ | refine hE _ _ ret_ne ?_ | refine hE _ _ exit_ne ?_) <;> try simp (disch := first | omega | decide +kernel) only [go_sem, Nat.reduceEqDiff, Nat.reduceLT, Nat.reduceAdd, Nat.reduceMul, Nat.reduceSub, ↓reduceIte, reduceCtorEq, Nat.reduceLeDiff, Nat.reduceSubDiff, Nat.reduceBEq]) | (refine hN _ ?_ ?_ Wk.kk) | (with_reducible refine And.intro ?_ ?_) | (with_reducible omega) | (exact ok_ints) | (exact cells_ints) | (exact no_mem) | (with_reducible exact plain_ints) | (refine le_maxLen ?_; omega) | (refine List.forall_mem_cons.2 ⟨?_, ?_⟩) | (simp only [go_sem, Nat.reduceAdd, Nat.reduceLT, List.mem_cons, List.not_mem_nil, forall_eq]; done)))
  all_goals (first | exact absurd trivial h' | omega | (simp_all; done) | trace_state)
end Abs.Y
