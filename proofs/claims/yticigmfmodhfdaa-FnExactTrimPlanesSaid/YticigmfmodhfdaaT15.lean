/- What functions of this program compute, as contracts over plain data, with what the proofs need of them. No condition. -/
import Derived.Test.YticigmfmodhfdaaT13
import Derived.Test.YticigmfmodhfdaaT14
set_option linter.all false
namespace Abs.Y
open Go Go.Proofs Abs
set_option maxRecDepth 100000

/-! ### The law of TrimPlanes -/
theorem r_pst {x : D} (h : isSt [isSt [isSl isI64, isI64], isI64, isI64, isI64, isI64] x) : ∃ s : PSt, x = D.pst s ∧ s.q.co.length ≤ 9223372036854775807 := by
  obtain ⟨es, rfl, hl, he⟩ := h
  match es, hl with
  | [e0, e1, e2, e3, e4], _ =>
    obtain ⟨fs, hq, hfl, hfe⟩ := he 0 (by simp)
    obtain ⟨ru, h1, _⟩ := he 1 (by simp)
    obtain ⟨l, h2, _⟩ := he 2 (by simp)
    obtain ⟨r, h3, _⟩ := he 3 (by simp)
    obtain ⟨n, h4, _⟩ := he 4 (by simp)
    simp only [List.getD_cons_zero, List.getD_cons_succ] at hq h1 h2 h3 h4
    match fs, hfl with
    | [f0, f1], _ =>
      obtain ⟨a, ha, hal⟩ := r_ints (hfe 0 (by simp))
      obtain ⟨b, hb, _⟩ := hfe 1 (by simp)
      simp only [List.getD_cons_zero, List.getD_cons_succ] at ha hb
      subst ha; subst hb; subst hq; subst h1; subst h2; subst h3; subst h4
      exact ⟨⟨⟨a, b⟩, ru, l, r, n⟩, rfl, hal⟩
theorem r_psts {x : D} (h : isSl (isSt [isSt [isSl isI64, isI64], isI64, isI64, isI64, isI64]) x) : ∃ a : List PSt, x = .slice (a.map D.pst) ∧ a.length ≤ 9223372036854775807 ∧ ∀ s ∈ a, s.q.co.length ≤ 9223372036854775807 := by
  obtain ⟨es, rfl, hl, he⟩ := h
  obtain ⟨a, rfl, ha⟩ := map_ex D.pst he fun e h => r_pst h
  exact ⟨a, rfl, by rw [maxLen_eq] at hl; simpa using hl, ha⟩
def pstF (s : PSt) (left : Int) : Int := szI s.q.co left
theorem pstF_szF : SzF pstF := fun s left h => szI_szF s.q.co left h
theorem szPS_ok (a : List PSt) (left : Int) (hl : a.length ≤ 9223372036854775807) (hx : ∀ x ∈ a, x.q.co.length ≤ 9223372036854775807) (h1 : 0 ≤ left ∧ left ≤ 1048576) : Ctr Try.prog 16 [.slice (a.map D.pst), .int .i64 left] false (.d (.int .i64 (szS pstF a left))) [] :=
  szPlaneStepS_ok a left hl hx h1
theorem sz_bothP {cs : List (List Int)} {st : List PSt} (h1 : 0 ≤ szS szI cs 1048576) (h2 : 0 ≤ szS pstF st (szS szI cs 1048576)) :
    SzP cs st ∧ ∀ s ∈ st, s.q.co.length ≤ 1048576 := by
  have e1 := szS_szF szI_szF cs 1048576 (by omega)
  have l1 := szS_len h1
  have l2 := szS_len h2
  have x1 : ∀ x ∈ cs, x.length ≤ 1048576 := fun x hx => by
    obtain ⟨y, h3, h4, h5⟩ := szS_each szI_szF h1 x hx
    have := szI_len h5; omega
  have x2 : ∀ s ∈ st, s.q.co.length ≤ 1048576 := fun s hs => by
    obtain ⟨y, h3, h4, h5⟩ := szS_each pstF_szF h2 s hs
    have := szI_len h5; omega
  refine ⟨⟨by omega, x1, by omega, fun j => ?_⟩, x2⟩
  by_cases hj : j < st.length
  · exact x2 _ (getD_mem hj)
  · rw [List.getD_eq_getElem?_getD, List.getElem?_eq_none (by omega)]; simp [PSt.z]
theorem tpV_bd {u : Int} {cs : List (List Int)} {st : List PSt} (z : SzP cs st) : (tpV u cs st).length ≤ 1048576 ∧ ∀ x ∈ tpV u cs st, x.q.co.length ≤ 1048576 := by
  have hl := z.hl
  unfold tpV
  split
  · unfold trimV
    have := rI_len (fun k => useP (st.getD k PSt.z)) st.length
    refine ⟨by rw [List.length_map]; omega, fun x hx => ?_⟩
    obtain ⟨v, _, rfl⟩ := List.mem_map.1 hx
    exact z.hs v.toNat
  · simp
set_option maxHeartbeats 4000000 in
theorem law_TrimPlanes : ∀ xs, AllR [isSt [isI64, isSl (isSl isI64)], isSl (isSt [isSt [isSl isI64, isI64], isI64, isI64, isI64, isI64])] xs → Ctr Try.prog 3 xs false (.d (.bool true)) [] := by
  intro xs hx
  obtain ⟨x0, ys, rfl, h0, hx⟩ := allR_cons hx
  obtain ⟨x1, ys, rfl, h1, hx⟩ := allR_cons hx
  obtain rfl := allR_nil hx
  obtain ⟨v, cs, rfl, hcl, hcx⟩ := r_cnf h0
  obtain ⟨st, rfl, hsl, hsx⟩ := r_psts h1
  have e1 := szS_szF szI_szF cs 1048576 (by omega)
  have s1 := szCnf_ok v cs 1048576 hcl hcx ⟨by omega, by omega⟩
  by_cases hz1 : szS szI cs 1048576 < 0
  · refine Ctr.of (n := 119) (rs := [.tmp 4]) Try.func3 rfl rfl Try.ntmps3 rfl rfl (by kernel_rfl) Try.checked.mixed ?_
    simp (disch := first | omega | decide +kernel) only [go_sem, Nat.reduceEqDiff, Nat.reduceLT, Nat.reduceAdd, Nat.reduceMul, Nat.reduceSub, ↓reduceIte, reduceCtorEq, Nat.reduceLeDiff, Nat.reduceSubDiff, Nat.reduceBEq]
    (repeat' (first | (refine gsel_split (fun h => ?_) (fun h => ?_) <;> (have h' := h) <;> (try simp only [decide_eq_true_eq, decide_eq_false_iff_not, Bool.not_eq_true', Bool.not_eq_false', bne_iff_ne, ne_eq, beq_iff_eq, bne_eq_false_iff_eq, beq_eq_false_iff_ne, Int.ofNat_lt, Int.ofNat_le, Int.not_lt, Int.not_le, Decidable.not_not, Bool.and_eq_true, Bool.or_eq_true, Bool.or_eq_false_iff, gt_iff_lt, ge_iff_le] at h') <;> simp (disch := first | omega | decide +kernel) only [h, go_sem, Nat.reduceEqDiff, Nat.reduceLT, Nat.reduceAdd, Nat.reduceMul, Nat.reduceSub, ↓reduceIte, reduceCtorEq, Nat.reduceLeDiff, Nat.reduceSubDiff, Nat.reduceBEq] <;> clear h) | ((first | refine callX_new (s1) rfl (by decide) ?_ | refine callY_new (s1) rfl ?_ | refine hE _ _ ret_ne ?_ | refine hE _ _ exit_ne ?_) <;> try simp (disch := first | omega | decide +kernel) only [go_sem, Nat.reduceEqDiff, Nat.reduceLT, Nat.reduceAdd, Nat.reduceMul, Nat.reduceSub, ↓reduceIte, reduceCtorEq, Nat.reduceLeDiff, Nat.reduceSubDiff, Nat.reduceBEq]) | (refine hN _ ?_ ?_ Wk.kk) | (with_reducible refine And.intro ?_ ?_) | (with_reducible omega) | (exact ok_ints) | (exact cells_ints) | (exact no_mem) | (with_reducible exact plain_ints) | (refine le_maxLen ?_; omega) | (refine List.forall_mem_cons.2 ⟨?_, ?_⟩) | (simp only [go_sem, Nat.reduceAdd, Nat.reduceLT, List.mem_cons, List.not_mem_nil, forall_eq]; done)))
  have s2 := szPS_ok st (szS szI cs 1048576) hsl hsx ⟨by omega, by omega⟩
  by_cases hz2 : szS pstF st (szS szI cs 1048576) < 0
  · refine Ctr.of (n := 119) (rs := [.tmp 4]) Try.func3 rfl rfl Try.ntmps3 rfl rfl (by kernel_rfl) Try.checked.mixed ?_
    simp (disch := first | omega | decide +kernel) only [go_sem, Nat.reduceEqDiff, Nat.reduceLT, Nat.reduceAdd, Nat.reduceMul, Nat.reduceSub, ↓reduceIte, reduceCtorEq, Nat.reduceLeDiff, Nat.reduceSubDiff, Nat.reduceBEq]
    (repeat' (first | (refine gsel_split (fun h => ?_) (fun h => ?_) <;> (have h' := h) <;> (try simp only [decide_eq_true_eq, decide_eq_false_iff_not, Bool.not_eq_true', Bool.not_eq_false', bne_iff_ne, ne_eq, beq_iff_eq, bne_eq_false_iff_eq, beq_eq_false_iff_ne, Int.ofNat_lt, Int.ofNat_le, Int.not_lt, Int.not_le, Decidable.not_not, Bool.and_eq_true, Bool.or_eq_true, Bool.or_eq_false_iff, gt_iff_lt, ge_iff_le] at h') <;> simp (disch := first | omega | decide +kernel) only [h, go_sem, Nat.reduceEqDiff, Nat.reduceLT, Nat.reduceAdd, Nat.reduceMul, Nat.reduceSub, ↓reduceIte, reduceCtorEq, Nat.reduceLeDiff, Nat.reduceSubDiff, Nat.reduceBEq] <;> clear h) | ((first | refine callX_new (s1) rfl (by decide) ?_ | refine callY_new (s1) rfl ?_ | refine callX_new (s2) rfl (by decide) ?_ | refine callY_new (s2) rfl ?_ | refine hE _ _ ret_ne ?_ | refine hE _ _ exit_ne ?_) <;> try simp (disch := first | omega | decide +kernel) only [go_sem, Nat.reduceEqDiff, Nat.reduceLT, Nat.reduceAdd, Nat.reduceMul, Nat.reduceSub, ↓reduceIte, reduceCtorEq, Nat.reduceLeDiff, Nat.reduceSubDiff, Nat.reduceBEq]) | (refine hN _ ?_ ?_ Wk.kk) | (with_reducible refine And.intro ?_ ?_) | (with_reducible omega) | (exact ok_ints) | (exact cells_ints) | (exact no_mem) | (with_reducible exact plain_ints) | (refine le_maxLen ?_; omega) | (refine List.forall_mem_cons.2 ⟨?_, ?_⟩) | (simp only [go_sem, Nat.reduceAdd, Nat.reduceLT, List.mem_cons, List.not_mem_nil, forall_eq]; done)))
  obtain ⟨z, hst⟩ := sz_bothP (cs := cs) (st := st) (by omega) (by omega)
  have hcl' : cs.length ≤ 4294967296 := Nat.le_trans z.hc (by omega)
  have hcs : ∀ x ∈ cs, x.length ≤ 4294967296 := fun x hx => Nat.le_trans (z.hcx x hx) (by omega)
  have hst' : ∀ x ∈ st, x.q.co.length ≤ 4294967296 := fun x hx => Nat.le_trans (hst x hx) (by omega)
  have hsl' : st.length ≤ 4294967296 := Nat.le_trans z.hl (by omega)
  have b1 := lenSS_bound (a := cs) (B := 1048576) z.hcx
  have b2 := lenPS_bound (a := st) (B := 1048576) hst
  have hcz := z.hc
  have hlz := z.hl
  have t1 := toCnf_ok v cs hcl' hcs
  have t2 := Ctr.data1 (toPlaneStepS_ok st hsl' hst')
  have q1 := eqCnf_ok v v cs cs hcl' hcs
  have q2 := eqPlaneStepS_ok st st hsl' hst'
  have d1 := toCnfd_ok v cs hcl' hcs
  have d2 := toPlaneStepSd_ok st hsl' hst'
  have c1 := specTP_ok v cs st z
  have c2 := implTP_ok v cs st z
  obtain ⟨hR, hRx⟩ := tpV_bd (u := v) z
  have m1 := fun τ => markCnf_ok τ v cs 1 (by omega) (by omega) hcl'
  have m2 := fun τ => markPlaneStepS_ok τ st (1 + (lenSS cs : Nat)) (by omega) (by omega) hsl'
  generalize tpV v cs st = R at *
  have hls := lenPS_bound (a := R) (B := 1048576) hRx
  have q0 := eqPlaneStepS_ok R R (by omega) (fun x hx => Nat.le_trans (hRx x hx) (by omega))
  have m3 := fun τ => markPlaneStepS_ok τ R 1 (by omega) (by omega) (by omega)
  have hh := heldPlaneStepS_ok R 1 (by omega) (by omega) (by omega)
  clear e1 hz1 hz2 h0 h1
  refine Ctr.of (n := 119) (rs := [.tmp 4]) Try.func3 rfl rfl Try.ntmps3 rfl rfl (by kernel_rfl) Try.checked.mixed ?_
  simp (disch := first | omega | decide +kernel) only [go_sem, Nat.reduceEqDiff, Nat.reduceLT, Nat.reduceAdd, Nat.reduceMul, Nat.reduceSub, ↓reduceIte, reduceCtorEq, Nat.reduceLeDiff, Nat.reduceSubDiff, Nat.reduceBEq]
  (repeat' (first | (refine gsel_split (fun h => ?_) (fun h => ?_) <;> (have h' := h) <;> (try simp only [decide_eq_true_eq, decide_eq_false_iff_not, Bool.not_eq_true', Bool.not_eq_false', bne_iff_ne, ne_eq, beq_iff_eq, bne_eq_false_iff_eq, beq_eq_false_iff_ne, Int.ofNat_lt, Int.ofNat_le, Int.not_lt, Int.not_le, Decidable.not_not, Bool.and_eq_true, Bool.or_eq_true, Bool.or_eq_false_iff, gt_iff_lt, ge_iff_le] at h') <;> simp (disch := first | omega | decide +kernel) only [h, go_sem, Nat.reduceEqDiff, Nat.reduceLT, Nat.reduceAdd, Nat.reduceMul, Nat.reduceSub, ↓reduceIte, reduceCtorEq, Nat.reduceLeDiff, Nat.reduceSubDiff, Nat.reduceBEq] <;> clear h) | ((first | refine callX_new (s1) rfl (by decide) ?_ | refine callY_new (s1) rfl ?_ | refine callX_new (s2) rfl (by decide) ?_ | refine callY_new (s2) rfl ?_ | refine hE _ _ ret_ne ?_ | refine hE _ _ exit_ne ?_) <;> try simp (disch := first | omega | decide +kernel) only [go_sem, Nat.reduceEqDiff, Nat.reduceLT, Nat.reduceAdd, Nat.reduceMul, Nat.reduceSub, ↓reduceIte, reduceCtorEq, Nat.reduceLeDiff, Nat.reduceSubDiff, Nat.reduceBEq]) | (refine hN _ ?_ ?_ Wk.kk) | (with_reducible refine And.intro ?_ ?_) | (with_reducible omega) | (exact ok_ints) | (exact cells_ints) | (exact no_mem) | (with_reducible exact plain_ints) | (refine le_maxLen ?_; omega) | (refine List.forall_mem_cons.2 ⟨?_, ?_⟩) | (simp only [go_sem, Nat.reduceAdd, Nat.reduceLT, List.mem_cons, List.not_mem_nil, forall_eq]; done)))
  refine callX_shared t1 rfl (by decide) ?_
  simp (disch := first | omega | decide +kernel) only [go_sem, Nat.reduceEqDiff, Nat.reduceLT, Nat.reduceAdd, Nat.reduceMul, Nat.reduceSub, ↓reduceIte, reduceCtorEq, Nat.reduceLeDiff, Nat.reduceSubDiff, Nat.reduceBEq]
  refine callX_shared t2 rfl (by decide) ?_
  simp (disch := first | omega | decide +kernel) only [go_sem, Nat.reduceEqDiff, Nat.reduceLT, Nat.reduceAdd, Nat.reduceMul, Nat.reduceSub, ↓reduceIte, reduceCtorEq, Nat.reduceLeDiff, Nat.reduceSubDiff, Nat.reduceBEq]
  refine callX_shared c1 rfl (by decide) ?_
  simp (disch := first | omega | decide +kernel) only [go_sem, Nat.reduceEqDiff, Nat.reduceLT, Nat.reduceAdd, Nat.reduceMul, Nat.reduceSub, ↓reduceIte, reduceCtorEq, Nat.reduceLeDiff, Nat.reduceSubDiff, Nat.reduceBEq]
  (repeat' (first | (refine gsel_split (fun h => ?_) (fun h => ?_) <;> (have h' := h) <;> (try simp only [decide_eq_true_eq, decide_eq_false_iff_not, Bool.not_eq_true', Bool.not_eq_false', bne_iff_ne, ne_eq, beq_iff_eq, bne_eq_false_iff_eq, beq_eq_false_iff_ne, Int.ofNat_lt, Int.ofNat_le, Int.not_lt, Int.not_le, Decidable.not_not, Bool.and_eq_true, Bool.or_eq_true, Bool.or_eq_false_iff, gt_iff_lt, ge_iff_le] at h') <;> simp (disch := first | omega | decide +kernel) only [h, go_sem, Nat.reduceEqDiff, Nat.reduceLT, Nat.reduceAdd, Nat.reduceMul, Nat.reduceSub, ↓reduceIte, reduceCtorEq, Nat.reduceLeDiff, Nat.reduceSubDiff, Nat.reduceBEq] <;> clear h) | ((first | refine callX_new (d1) rfl (by decide) ?_ | refine callY_new (d1) rfl ?_ | refine callX_new (d2) rfl (by decide) ?_ | refine callY_new (d2) rfl ?_ | refine callX_new (c2) rfl (by decide) ?_ | refine callY_new (c2) rfl ?_ | refine callX_new (q0) rfl (by decide) ?_ | refine callY_new (q0) rfl ?_ | refine callX_new (q1) rfl (by decide) ?_ | refine callY_new (q1) rfl ?_ | refine callX_new (q2) rfl (by decide) ?_ | refine callY_new (q2) rfl ?_ | refine callX_keep _ (m1 _) ⟨.inl rfl, .inl rfl, trivial⟩ rfl (by simp [dstB]) ?_ | refine callX_keep _ (m2 _) ⟨.inl rfl, .inl rfl, trivial⟩ rfl (by simp [dstB]) ?_ | refine callX_keep _ (m3 _) ⟨.inl rfl, .inl rfl, trivial⟩ rfl (by simp [dstB]) ?_ | refine callX_new (hh) rfl (by decide) ?_ | refine callY_new (hh) rfl ?_ | refine callX_shared (t1) rfl (by decide) ?_ | refine callY_shared (t1) rfl ?_ | refine callX_shared (t2) rfl (by decide) ?_ | refine callY_shared (t2) rfl ?_ | refine hE _ _ ret_ne ?_ | refine hE _ _ exit_ne ?_) <;> try simp (disch := first | omega | decide +kernel) only [go_sem, Nat.reduceEqDiff, Nat.reduceLT, Nat.reduceAdd, Nat.reduceMul, Nat.reduceSub, ↓reduceIte, reduceCtorEq, Nat.reduceLeDiff, Nat.reduceSubDiff, Nat.reduceBEq]) | (refine hN _ ?_ ?_ Wk.kk) | (with_reducible refine And.intro ?_ ?_) | (with_reducible omega) | (exact ok_ints) | (exact cells_ints) | (exact no_mem) | (with_reducible exact plain_ints) | (refine le_maxLen ?_; omega) | (refine List.forall_mem_cons.2 ⟨?_, ?_⟩) | (simp only [go_sem, Nat.reduceAdd, Nat.reduceLT, List.mem_cons, List.not_mem_nil, forall_eq]; done)))
  all_goals (first | exact absurd trivial h' | omega | trace_state)
end Abs.Y
