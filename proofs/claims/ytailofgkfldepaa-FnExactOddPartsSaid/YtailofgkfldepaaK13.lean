/- What functions of this program compute, as contracts over plain data, with what the proofs need of them. No condition. -/
import Derived.Test.YtailofgkfldepaaK12
set_option linter.all false
namespace Abs.Y
open Go Go.Proofs Abs
set_option maxRecDepth 100000

/-! ### The argument of the laws on graphs -/
theorem r_ed {x : D} (h : isSt [isI64, isI64] x) : ∃ e : Int × Int, x = D.ed e ∧ True := by
  obtain ⟨es, rfl, hl, he⟩ := h
  match es, hl with
  | [e0, e1], _ =>
    obtain ⟨a, ha, _⟩ := he 0 (by simp)
    obtain ⟨b, hb, _⟩ := he 1 (by simp)
    simp only [List.getD_cons_zero, List.getD_cons_succ] at ha hb
    subst ha; subst hb
    exact ⟨(a, b), rfl, trivial⟩
theorem r_chg {x : D} (h : isSt [isI64, isSl (isSt [isI64, isI64]), isSl isI64] x) : ∃ g : Chg, x = D.chg g ∧ g.ed.length ≤ 9223372036854775807 ∧ g.ch.length ≤ 9223372036854775807 := by
  obtain ⟨es, rfl, hl, he⟩ := h
  match es, hl with
  | [e0, e1, e2], _ =>
    obtain ⟨v, hv, _⟩ := he 0 (by simp)
    have h1 := he 1 (by simp)
    obtain ⟨c, hc, h2⟩ := r_ints (he 2 (by simp))
    simp only [List.getD_cons_zero, List.getD_cons_succ] at hv h1 hc
    obtain ⟨fs, rfl, hl, hf⟩ := h1
    obtain ⟨a, rfl, _⟩ := map_ex D.ed hf fun e h => r_ed h
    subst hv; subst hc
    exact ⟨⟨v, a, c⟩, rfl, by rw [maxLen_eq] at hl; simpa using hl, h2⟩
theorem szC_spec {g : Chg} (h : 0 ≤ szC g 1048576) : g.ed.length ≤ 1048576 ∧ g.ch.length ≤ 1048576 := by
  unfold szC at h
  split at h
  · omega
  · rename_i h1
    have := szE_le g.ed.length 1048576 (by omega)
    have := szE_le g.ch.length (szE g.ed.length 1048576) (by omega)
    omega
theorem partsB_lens {g : Chg} : (partsB g).length ≤ 8 ∧ ∀ x ∈ partsB g, x.length ≤ 8 := by
  unfold partsB
  split
  · rename_i hg
    have hs := (goodC_spec hg).1
    have hll := linesL_le g g.n.toNat
    change (linesI g).length ≤ _ at hll
    have hn8 := hs.1.2
    refine ⟨by rw [partsI_len]; omega, fun x hx => ?_⟩
    obtain ⟨l, hl, rfl⟩ := List.mem_map.1 hx
    rw [sortZ_len, List.length_map]
    exact (linesI_lin hg _ (Nat.le_refl _) l hl).len
  · simp
theorem chg_unf (g : Chg) : D.chg g = .agg [.int .i64 g.n, .slice (g.ed.map D.ed), .slice (g.ch.map (.int .i64))] := rfl
set_option maxHeartbeats 4000000 in
theorem law_PartsOf : ∀ xs, AllR [isSt [isI64, isSl (isSt [isI64, isI64]), isSl isI64]] xs → Ctr Try.prog 3 xs false (.d (.bool true)) [] := by
  intro xs hx
  obtain ⟨x0, ys, rfl, h0, hx⟩ := allR_cons hx
  obtain rfl := allR_nil hx
  obtain ⟨g, rfl, hel, hcl⟩ := r_chg h0
  have s1 := szCharged_ok g 1048576 hel hcl ⟨by omega, by omega⟩
  by_cases hz1 : szC g 1048576 < 0
  · refine Ctr.of (n := 96) (rs := [.tmp 2]) Try.func3 rfl rfl Try.ntmps3 rfl rfl (by kernel_rfl) Try.checked.mixed ?_
    simp only [D.chg, D.ints] at s1
    simp (disch := first | omega | decide +kernel) only [D.chg, D.ints, el_ints, el_intss, el_steps, wrap_of, Int.toNat_natCast, toNat_pred, Int.toNat_zero, Nat.sub_zero, List.drop_zero, ← List.map_take, ← List.map_drop, go_sem, Nat.reduceEqDiff, Nat.reduceLT, Nat.reduceAdd, Nat.reduceMul, Nat.reduceSub, ↓reduceIte, reduceCtorEq, Nat.reduceLeDiff, Nat.reduceSubDiff, Nat.reduceBEq]
    (repeat' (first | (refine gsel_split (fun h => ?_) (fun h => ?_) <;> (have h' := h) <;> (try simp only [decide_eq_true_eq, decide_eq_false_iff_not, Bool.not_eq_true', Bool.not_eq_false', bne_iff_ne, ne_eq, beq_iff_eq, bne_eq_false_iff_eq, beq_eq_false_iff_ne, Int.ofNat_lt, Int.ofNat_le, Int.not_lt, Int.not_le, Decidable.not_not, Bool.and_eq_true, Bool.or_eq_true, Bool.or_eq_false_iff, gt_iff_lt, ge_iff_le] at h') <;> simp (disch := first | omega | decide +kernel) only [h, el_ints, el_intss, el_steps, wrap_of, Int.toNat_natCast, toNat_pred, Int.toNat_zero, Nat.sub_zero, List.drop_zero, ← List.map_take, ← List.map_drop, go_sem, Nat.reduceEqDiff, Nat.reduceLT, Nat.reduceAdd, Nat.reduceMul, Nat.reduceSub, ↓reduceIte, reduceCtorEq, Nat.reduceLeDiff, Nat.reduceSubDiff, Nat.reduceBEq] <;> clear h) | ((first | refine callX_new (s1) rfl (by decide) ?_ | refine callY_new (s1) rfl ?_ | refine hE _ _ ret_ne ?_ | refine hE _ _ exit_ne ?_) <;> try simp (disch := first | omega | decide +kernel) only [el_ints, el_intss, el_steps, wrap_of, Int.toNat_natCast, toNat_pred, Int.toNat_zero, Nat.sub_zero, List.drop_zero, ← List.map_take, ← List.map_drop, go_sem, Nat.reduceEqDiff, Nat.reduceLT, Nat.reduceAdd, Nat.reduceMul, Nat.reduceSub, ↓reduceIte, reduceCtorEq, Nat.reduceLeDiff, Nat.reduceSubDiff, Nat.reduceBEq]) | (refine hN _ ?_ ?_ (Wk.auto (by simp [extraK, lk, killL, St.kill, wipeO, wipeS, AV.has, AV.hasL, AO.wipe, List.map_set, updSt, insL, dropS, ins]) (by simp [extraK, lk, killL, St.kill, wipeO, wipeS, AV.has, AV.hasL, AO.wipe, List.map_set, updSt, insL, dropS, ins]))) | (with_reducible refine And.intro ?_ ?_) | (with_reducible omega) | (exact ok_ints) | (exact cells_ints) | (exact no_mem) | (with_reducible exact plain_ints) | (refine le_maxLen ?_; omega) | (refine List.forall_mem_cons.2 ⟨?_, ?_⟩) | (simp only [go_sem, List.length_cons, List.length_nil, Nat.reduceAdd, Nat.reduceLT, Nat.zero_lt_succ, and_self, List.mem_cons, List.not_mem_nil, or_false, forall_eq]; done)))
  obtain ⟨he2, hc2⟩ := szC_spec (g := g) (by omega)
  have hel : g.ed.length ≤ 4294967296 := by omega
  have hcl : g.ch.length ≤ 4294967296 := by omega
  have d1 := toCharged_ok g hel hcl
  have t1 := toChargedS_ok g hel hcl
  have q1 := eqCharged_ok g g hel hcl
  have c1 := spec_PartsOf_ok g hel hcl
  have c2 := impl_PartsOf_ok g hel hcl
  have hR := partsB_lens (g := g)
  have m1 := fun τ σ => markCharged_ok τ σ g 1 (by omega) (by omega)
  generalize partsB g = R at *
  have hls := lenSS_bound (a := R) (B := 8) hR.2
  have hx : ∀ x ∈ R, x.length ≤ 4294967296 := fun x hx => Nat.le_trans (hR.2 x hx) (by omega)
  have q0 := eqIntSS_ok R R (by omega) hx
  have m3 := fun τ => markIntSS_ok τ R 1 (by omega) (by omega) (by omega)
  have hh := heldIntSS_ok R 1 (by omega) (by omega) (by omega)
  simp only [D.chg, D.ints] at s1 d1 t1 q1 c1 c2
  refine Ctr.of (n := 96) (rs := [.tmp 2]) Try.func3 rfl rfl Try.ntmps3 rfl rfl (by kernel_rfl) Try.checked.mixed ?_
  simp (disch := first | omega | decide +kernel) only [D.chg, D.ints, el_ints, el_intss, el_steps, wrap_of, Int.toNat_natCast, toNat_pred, Int.toNat_zero, Nat.sub_zero, List.drop_zero, ← List.map_take, ← List.map_drop, go_sem, Nat.reduceEqDiff, Nat.reduceLT, Nat.reduceAdd, Nat.reduceMul, Nat.reduceSub, ↓reduceIte, reduceCtorEq, Nat.reduceLeDiff, Nat.reduceSubDiff, Nat.reduceBEq]
  (repeat' (first | (refine gsel_split (fun h => ?_) (fun h => ?_) <;> (have h' := h) <;> (try simp only [decide_eq_true_eq, decide_eq_false_iff_not, Bool.not_eq_true', Bool.not_eq_false', bne_iff_ne, ne_eq, beq_iff_eq, bne_eq_false_iff_eq, beq_eq_false_iff_ne, Int.ofNat_lt, Int.ofNat_le, Int.not_lt, Int.not_le, Decidable.not_not, Bool.and_eq_true, Bool.or_eq_true, Bool.or_eq_false_iff, gt_iff_lt, ge_iff_le] at h') <;> simp (disch := first | omega | decide +kernel) only [h, el_ints, el_intss, el_steps, wrap_of, Int.toNat_natCast, toNat_pred, Int.toNat_zero, Nat.sub_zero, List.drop_zero, ← List.map_take, ← List.map_drop, go_sem, Nat.reduceEqDiff, Nat.reduceLT, Nat.reduceAdd, Nat.reduceMul, Nat.reduceSub, ↓reduceIte, reduceCtorEq, Nat.reduceLeDiff, Nat.reduceSubDiff, Nat.reduceBEq] <;> clear h) | ((first | refine callX_new (s1) rfl (by decide) ?_ | refine callY_new (s1) rfl ?_ | refine hE _ _ ret_ne ?_ | refine hE _ _ exit_ne ?_) <;> try simp (disch := first | omega | decide +kernel) only [el_ints, el_intss, el_steps, wrap_of, Int.toNat_natCast, toNat_pred, Int.toNat_zero, Nat.sub_zero, List.drop_zero, ← List.map_take, ← List.map_drop, go_sem, Nat.reduceEqDiff, Nat.reduceLT, Nat.reduceAdd, Nat.reduceMul, Nat.reduceSub, ↓reduceIte, reduceCtorEq, Nat.reduceLeDiff, Nat.reduceSubDiff, Nat.reduceBEq]) | (refine hN _ ?_ ?_ (Wk.auto (by simp [extraK, lk, killL, St.kill, wipeO, wipeS, AV.has, AV.hasL, AO.wipe, List.map_set, updSt, insL, dropS, ins]) (by simp [extraK, lk, killL, St.kill, wipeO, wipeS, AV.has, AV.hasL, AO.wipe, List.map_set, updSt, insL, dropS, ins]))) | (with_reducible refine And.intro ?_ ?_) | (with_reducible omega) | (exact ok_ints) | (exact cells_ints) | (exact no_mem) | (with_reducible exact plain_ints) | (refine le_maxLen ?_; omega) | (refine List.forall_mem_cons.2 ⟨?_, ?_⟩) | (simp only [go_sem, List.length_cons, List.length_nil, Nat.reduceAdd, Nat.reduceLT, Nat.zero_lt_succ, and_self, List.mem_cons, List.not_mem_nil, or_false, forall_eq]; done)))
  refine callX_shared t1 rfl (by decide) ?_
  simp (disch := first | omega | decide +kernel) only [el_ints, el_intss, el_steps, wrap_of, Int.toNat_natCast, toNat_pred, Int.toNat_zero, Nat.sub_zero, List.drop_zero, ← List.map_take, ← List.map_drop, go_sem, Nat.reduceEqDiff, Nat.reduceLT, Nat.reduceAdd, Nat.reduceMul, Nat.reduceSub, ↓reduceIte, reduceCtorEq, Nat.reduceLeDiff, Nat.reduceSubDiff, Nat.reduceBEq]
  refine callX_shared c1 rfl (by decide) ?_
  simp (disch := first | omega | decide +kernel) only [el_ints, el_intss, el_steps, wrap_of, Int.toNat_natCast, toNat_pred, Int.toNat_zero, Nat.sub_zero, List.drop_zero, ← List.map_take, ← List.map_drop, go_sem, Nat.reduceEqDiff, Nat.reduceLT, Nat.reduceAdd, Nat.reduceMul, Nat.reduceSub, ↓reduceIte, reduceCtorEq, Nat.reduceLeDiff, Nat.reduceSubDiff, Nat.reduceBEq]
  (repeat' (first | (refine gsel_split (fun h => ?_) (fun h => ?_) <;> (have h' := h) <;> (try simp only [decide_eq_true_eq, decide_eq_false_iff_not, Bool.not_eq_true', Bool.not_eq_false', bne_iff_ne, ne_eq, beq_iff_eq, bne_eq_false_iff_eq, beq_eq_false_iff_ne, Int.ofNat_lt, Int.ofNat_le, Int.not_lt, Int.not_le, Decidable.not_not, Bool.and_eq_true, Bool.or_eq_true, Bool.or_eq_false_iff, gt_iff_lt, ge_iff_le] at h') <;> simp (disch := first | omega | decide +kernel) only [h, el_ints, el_intss, el_steps, wrap_of, Int.toNat_natCast, toNat_pred, Int.toNat_zero, Nat.sub_zero, List.drop_zero, ← List.map_take, ← List.map_drop, D.ints, go_sem, Nat.reduceEqDiff, Nat.reduceLT, Nat.reduceAdd, Nat.reduceMul, Nat.reduceSub, ↓reduceIte, reduceCtorEq, Nat.reduceLeDiff, Nat.reduceSubDiff, Nat.reduceBEq] <;> clear h) | ((first | refine callX_new (d1) rfl (by decide) ?_ | refine callY_new (d1) rfl ?_ | refine callX_new (c2) rfl (by decide) ?_ | refine callY_new (c2) rfl ?_ | refine callX_new (q0) rfl (by decide) ?_ | refine callY_new (q0) rfl ?_ | refine callX_new (q1) rfl (by decide) ?_ | refine callY_new (q1) rfl ?_ | refine callX_keep2 _ _ (m1 _ _) ⟨.inl rfl, .inl rfl, trivial⟩ rfl rfl (by decide) (by simp [dstB]) ?_ | refine callX_keep _ (m3 _) ⟨.inl rfl, .inl rfl, trivial⟩ rfl (by simp [dstB]) ?_ | refine callX_new (hh) rfl (by decide) ?_ | refine callY_new (hh) rfl ?_ | refine callX_shared (t1) rfl (by decide) ?_ | refine callY_shared (t1) rfl ?_ | refine hE _ _ ret_ne ?_ | refine hE _ _ exit_ne ?_) <;> try simp (disch := first | omega | decide +kernel) only [el_ints, el_intss, el_steps, wrap_of, Int.toNat_natCast, toNat_pred, Int.toNat_zero, Nat.sub_zero, List.drop_zero, ← List.map_take, ← List.map_drop, D.ints, go_sem, Nat.reduceEqDiff, Nat.reduceLT, Nat.reduceAdd, Nat.reduceMul, Nat.reduceSub, ↓reduceIte, reduceCtorEq, Nat.reduceLeDiff, Nat.reduceSubDiff, Nat.reduceBEq]) | (refine hN _ ?_ ?_ (Wk.auto (by simp [extraK, lk, killL, St.kill, wipeO, wipeS, AV.has, AV.hasL, AO.wipe, List.map_set, updSt, insL, dropS, ins]) (by simp [extraK, lk, killL, St.kill, wipeO, wipeS, AV.has, AV.hasL, AO.wipe, List.map_set, updSt, insL, dropS, ins]))) | (with_reducible refine And.intro ?_ ?_) | (with_reducible omega) | (exact ok_ints) | (exact cells_ints) | (exact no_mem) | (with_reducible exact plain_ints) | (refine le_maxLen ?_; omega) | (refine List.forall_mem_cons.2 ⟨?_, ?_⟩) | (simp only [go_sem, List.length_cons, List.length_nil, Nat.reduceAdd, Nat.reduceLT, Nat.zero_lt_succ, and_self, List.mem_cons, List.not_mem_nil, or_false, forall_eq]; done)))
  all_goals (first | exact absurd trivial h' | omega | trace_state)
end Abs.Y
