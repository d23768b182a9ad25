/- What functions of this program compute, as contracts over plain data, with what the proofs need of them. No condition. -/
import Derived.Test.YtailofgkfldepaaGreatG5
set_option linter.all false
namespace Abs.Y
open Go Go.Proofs Abs
set_option maxRecDepth 100000

/-- A new slice and data, read as data. -/
theorem Ctr.data2 {P : Program} {f : FuncId} {xs : List D} {e : TypeId} {k : Nat} {es : List D} {y : D} (h : Ctr P f xs false (.tup [.sl 0, .d y]) [(0, .arr e k es)]) : Ctr P f xs true (.d (.tup [.slice es, y])) [] := by
  refine ⟨h.1, fun S w vs hl hr => (h.2 S w vs hl hr).mono fun en w' ⟨v, he, hf, β, φ, hrel, hobj, hown, hdis⟩ => ⟨v, he, hf, β, φ, .d ?_, by simp [lk], by simp [lk], by simp [lk]⟩⟩
  cases hrel with
  | tup hl' hr' =>
    rename_i us
    match us, hl' with
    | [u0, u1], _ =>
      have h0 := hr' 0 (by simp)
      have h1 := hr' 1 (by simp)
      simp only [List.getD_cons_zero, List.getD_cons_succ] at h0 h1
      cases h0
      cases h1 with
      | d h1 =>
        refine Rd.tup rfl fun i hi => ?_
        match i, hi with
        | 0, _ =>
          simp only [List.getD_cons_zero]
          exact rd_of_arr (hobj 0 (.arr e k es) (by simp [lk])) (fun g hg _ => ⟨hg.1.imp id fun h => (by simp at h), by simp [lk]⟩) fun g hg => ⟨.inl (hown 0 (.arr e k es) g (by simp [lk]) hg), by simp [lk]⟩
        | 1, _ =>
          simp only [List.getD_cons_zero, List.getD_cons_succ]
          exact h1.weaken fun g hg => ⟨hg.1.imp id fun h => (by simp at h), by simp [lk]⟩

/-- A step of a list is correct. -/
def correctI (v : Int) (cs : List (List Int)) (steps : List Step) (k : Nat) : Bool :=
  okClause v (steps.getD k Step.z).c &&
  (if (steps.getD k Step.z).l = -1 then decide ((steps.getD k Step.z).p = 0) && (decide (0 ≤ (steps.getD k Step.z).r) && decide ((steps.getD k Step.z).r ≤ cs.length - 1)) && decide (cs.getD (steps.getD k Step.z).r.toNat [] = (steps.getD k Step.z).c)
   else okEarlier v steps k (steps.getD k Step.z).l &&
     (if (steps.getD k Step.z).r = -1 then decide ((steps.getD k Step.z).p = 0) && subI (steps.getD (steps.getD k Step.z).l.toNat Step.z).c (steps.getD k Step.z).c
      else (okEarlier v steps k (steps.getD k Step.z).r && (decide (1 ≤ (steps.getD k Step.z).p) && decide ((steps.getD k Step.z).p ≤ v))) &&
        ((resolveI (steps.getD (steps.getD k Step.z).l.toNat Step.z).c (steps.getD (steps.getD k Step.z).r.toNat Step.z).c (steps.getD k Step.z).p).isSome &&
          decide (optL (resolveI (steps.getD (steps.getD k Step.z).l.toNat Step.z).c (steps.getD (steps.getD k Step.z).r.toNat Step.z).c (steps.getD k Step.z).p) = (steps.getD k Step.z).c))))
theorem joinI_length : ∀ (b a : List Int), (optL (joinI a b)).length ≤ a.length + b.length
  | [], a => by simp [joinI, optL]
  | y :: r, a => by
    rw [joinI]
    split
    · simp [optL]
    · have := joinI_length r (if (a.any (· == y)) = true then a else putI a y)
      have h : (if (a.any (· == y)) = true then a else putI a y).length ≤ a.length + 1 := by split <;> simp [length_putI]
      simp only [List.length_cons]; omega
theorem resolveI_length (a b : List Int) (v : Int) : (optL (resolveI a b v)).length ≤ a.length + b.length := by
  rw [resolveI]
  split
  · have h1 := joinI_length (b.filter fun l => varI l != v) (a.filter fun l => varI l != v)
    have h2 := List.length_filter_le (fun l => varI l != v) a
    have h3 := List.length_filter_le (fun l => varI l != v) b
    omega
  · simp [optL]
theorem okEarlier_lt {v : Int} {steps : List Step} {k : Nat} {i : Int} (h : okEarlier v steps k i = true) : 0 ≤ i ∧ i.toNat < k ∧ okClause v (steps.getD i.toNat Step.z).c = true := by
  simp only [okEarlier, Bool.and_eq_true, decide_eq_true_eq] at h
  exact ⟨h.1.1, by omega, h.2⟩
set_option maxHeartbeats 4000000 in
theorem l7Correct_ok (v : Int) (cs : List (List Int)) (steps : List Step) (k : Nat) (hk : k < steps.length) (hl : steps.length ≤ 1048576) (hs : ∀ j, (steps.getD j Step.z).c.length ≤ 1048576) (hcl : cs.length ≤ 1048576) (hc : ∀ j, (cs.getD j []).length ≤ 1048576) :
    Ctr Tryz.prog 64 [.agg [.int .i64 v, .slice (cs.map D.ints)], .slice (steps.map D.step), .int .i64 k] false (.d (.bool (correctI v cs steps k))) [] := by
  have hsk := hs k
  have hl2 := hs (steps.getD k Step.z).l.toNat
  have hr2 := hs (steps.getD k Step.z).r.toNat
  have hcr := hc (steps.getD k Step.z).r.toNat
  have hres := Ctr.data2 (l2Resolve_ok (steps.getD (steps.getD k Step.z).l.toNat Step.z).c (steps.getD (steps.getD k Step.z).r.toNat Step.z).c (steps.getD k Step.z).p hl2 hr2)
  have c1 := l2Clause_ok v (steps.getD k Step.z).c (by omega)
  have c2 := l1Same_ok (cs.getD (steps.getD k Step.z).r.toNat []) (steps.getD k Step.z).c (by omega)
  have c3 := l7Clause_ok v cs steps k (steps.getD k Step.z).l ⟨by omega, by omega⟩ (by omega) (fun j => Nat.le_trans (hs j) (by omega))
  have c4 := l7Clause_ok v cs steps k (steps.getD k Step.z).r ⟨by omega, by omega⟩ (by omega) (fun j => Nat.le_trans (hs j) (by omega))
  have c5 := l2Sub_ok (steps.getD (steps.getD k Step.z).l.toNat Step.z).c (steps.getD k Step.z).c (by omega) (by omega)
  have hresl : (optL (resolveI (steps.getD (steps.getD k Step.z).l.toNat Step.z).c (steps.getD (steps.getD k Step.z).r.toNat Step.z).c (steps.getD k Step.z).p)).length ≤ 4294967296 := by
    have := resolveI_length (steps.getD (steps.getD k Step.z).l.toNat Step.z).c (steps.getD (steps.getD k Step.z).r.toNat Step.z).c (steps.getD k Step.z).p
    omega
  have c6 := l1Same_ok (optL (resolveI (steps.getD (steps.getD k Step.z).l.toNat Step.z).c (steps.getD (steps.getD k Step.z).r.toNat Step.z).c (steps.getD k Step.z).p)) (steps.getD k Step.z).c hresl
  unfold correctI
  generalize hsd : steps.getD k Step.z = s at *
  have b1 : okEarlier v steps k s.l = false ∨ (0 ≤ s.l ∧ s.l < k) := by
    cases h : okEarlier v steps k s.l with
    | false => exact .inl rfl
    | true => have := okEarlier_lt h; exact .inr (by omega)
  have b2 : okEarlier v steps k s.r = false ∨ (0 ≤ s.r ∧ s.r < k) := by
    cases h : okEarlier v steps k s.r with
    | false => exact .inl rfl
    | true => have := okEarlier_lt h; exact .inr (by omega)
  refine Ctr.of (n := 110) (rs := [.tmp 6]) Tryz.func64 rfl rfl Tryz.ntmps64 rfl rfl (by kernel_rfl) Tryz.checked.mixed ?_
  simp (disch := first | omega | decide +kernel) only [hsd, el_ints, el_intss, el_steps, wrap_of, Int.toNat_natCast, toNat_pred, Int.toNat_zero, Nat.sub_zero, List.drop_zero, ← List.map_take, ← List.map_drop, go_sem, Nat.reduceEqDiff, Nat.reduceLT, Nat.reduceAdd, Nat.reduceMul, Nat.reduceSub, ↓reduceIte, reduceCtorEq, Nat.reduceLeDiff, Nat.reduceSubDiff, Nat.reduceBEq]
  rcases b1 with b1 | b1 <;> rcases b2 with b2 | b2
  all_goals ((repeat' (first | (refine gsel_split (fun h => ?_) (fun h => ?_) <;> (have h' := h) <;> (try simp only [decide_eq_true_eq, decide_eq_false_iff_not, Bool.not_eq_true', Bool.not_eq_false', bne_iff_ne, ne_eq, beq_iff_eq, bne_eq_false_iff_eq, beq_eq_false_iff_ne, Int.ofNat_lt, Int.ofNat_le, Int.not_lt, Int.not_le, Decidable.not_not, Bool.and_eq_true, Bool.or_eq_true, Bool.or_eq_false_iff, gt_iff_lt, ge_iff_le] at h') <;> simp (disch := first | omega | decide +kernel) only [h, el_ints, el_intss, el_steps, wrap_of, Int.toNat_natCast, toNat_pred, Int.toNat_zero, Nat.sub_zero, List.drop_zero, ← List.map_take, ← List.map_drop, hsd, b1, b2, go_sem, Nat.reduceEqDiff, Nat.reduceLT, Nat.reduceAdd, Nat.reduceMul, Nat.reduceSub, ↓reduceIte, reduceCtorEq, Nat.reduceLeDiff, Nat.reduceSubDiff, Nat.reduceBEq] <;> clear h) | ((first | refine callX_new (c1) rfl (by decide) ?_ | refine callY_new (c1) rfl ?_ | refine callX_new (l1In_ok _ _ _) rfl (by decide) ?_ | refine callY_new (l1In_ok _ _ _) rfl ?_ | refine callX_new (c2) rfl (by decide) ?_ | refine callY_new (c2) rfl ?_ | refine callX_new (c3) rfl (by decide) ?_ | refine callY_new (c3) rfl ?_ | refine callX_new (c4) rfl (by decide) ?_ | refine callY_new (c4) rfl ?_ | refine callX_new (c5) rfl (by decide) ?_ | refine callY_new (c5) rfl ?_ | refine callX_shared (hres) rfl (by decide) ?_ | refine callY_shared (hres) rfl ?_ | refine callX_new (c6) rfl (by decide) ?_ | refine callY_new (c6) rfl ?_ | refine hE _ _ ret_ne ?_ | refine hE _ _ exit_ne ?_) <;> try simp (disch := first | omega | decide +kernel) only [el_ints, el_intss, el_steps, wrap_of, Int.toNat_natCast, toNat_pred, Int.toNat_zero, Nat.sub_zero, List.drop_zero, ← List.map_take, ← List.map_drop, hsd, b1, b2, go_sem, Nat.reduceEqDiff, Nat.reduceLT, Nat.reduceAdd, Nat.reduceMul, Nat.reduceSub, ↓reduceIte, reduceCtorEq, Nat.reduceLeDiff, Nat.reduceSubDiff, Nat.reduceBEq]) | (refine hN _ ?_ ?_ (Wk.auto (by simp [extraK, lk, killL, St.kill, wipeO, wipeS, AV.has, AV.hasL, AO.wipe, List.map_set, updSt, insL, dropS, ins]) (by simp [extraK, lk, killL, St.kill, wipeO, wipeS, AV.has, AV.hasL, AO.wipe, List.map_set, updSt, insL, dropS, ins]))) | (with_reducible refine And.intro ?_ ?_) | (with_reducible omega) | (exact ok_ints) | (exact cells_ints) | (exact no_mem) | (with_reducible exact plain_ints) | (refine le_maxLen ?_; omega) | (refine List.forall_mem_cons.2 ⟨?_, ?_⟩) | (simp only [go_sem, List.length_cons, List.length_nil, Nat.reduceAdd, Nat.reduceLT, Nat.zero_lt_succ, and_self, List.mem_cons, List.not_mem_nil, or_false, forall_eq]; done))))
  all_goals (clear c1 c2 c3 c4 c5 c6 hres)
  all_goals (first | (simp_all; done) | (simp only [h']; simp_all; done) | trace_state)
end Abs.Y

namespace Abs.Y
open Go Go.Proofs Abs
set_option maxRecDepth 100000

set_option maxHeartbeats 4000000 in
theorem correct_ok (v : Int) (cs : List (List Int)) (steps : List Step) (k : Nat) (hk : k < steps.length) (hl : steps.length ≤ 1048576) (hs : ∀ j, (steps.getD j Step.z).c.length ≤ 1048576) (hcl : cs.length ≤ 1048576) (hc : ∀ j, (cs.getD j []).length ≤ 1048576) :
    Ctr Tryz.prog 67 [.agg [.int .i64 v, .slice (cs.map D.ints)], .slice (steps.map D.step), .int .i64 k] false (.d (.bool (correctI v cs steps k))) [] := by
  have hsk := hs k
  have hl2 := hs (steps.getD k Step.z).l.toNat
  have hr2 := hs (steps.getD k Step.z).r.toNat
  have hcr := hc (steps.getD k Step.z).r.toNat
  have hres := fun (o1 : okEarlier v steps k (steps.getD k Step.z).l = true) (o2 : okEarlier v steps k (steps.getD k Step.z).r = true) => resolve_ok (steps.getD (steps.getD k Step.z).l.toNat Step.z).c (steps.getD (steps.getD k Step.z).r.toNat Step.z).c (steps.getD k Step.z).p hl2 hr2 (okEarlier_lt o1).2.2 (okEarlier_lt o2).2.2
  have c1 := isClause_ok v (steps.getD k Step.z).c (by omega)
  have c2 := equal_ok (cs.getD (steps.getD k Step.z).r.toNat []) (steps.getD k Step.z).c (by omega)
  have c3 := earlier_ok v cs steps k (steps.getD k Step.z).l ⟨by omega, by omega⟩ (by omega) (fun j => Nat.le_trans (hs j) (by omega))
  have c4 := earlier_ok v cs steps k (steps.getD k Step.z).r ⟨by omega, by omega⟩ (by omega) (fun j => Nat.le_trans (hs j) (by omega))
  have c5 := part_ok (steps.getD (steps.getD k Step.z).l.toNat Step.z).c (steps.getD k Step.z).c (by omega) (by omega)
  have hresl : (optL (resolveI (steps.getD (steps.getD k Step.z).l.toNat Step.z).c (steps.getD (steps.getD k Step.z).r.toNat Step.z).c (steps.getD k Step.z).p)).length ≤ 4294967296 := by
    have := resolveI_length (steps.getD (steps.getD k Step.z).l.toNat Step.z).c (steps.getD (steps.getD k Step.z).r.toNat Step.z).c (steps.getD k Step.z).p
    omega
  have c6 := equal_ok (optL (resolveI (steps.getD (steps.getD k Step.z).l.toNat Step.z).c (steps.getD (steps.getD k Step.z).r.toNat Step.z).c (steps.getD k Step.z).p)) (steps.getD k Step.z).c hresl
  unfold correctI
  generalize hsd : steps.getD k Step.z = s at *
  have b1 : okEarlier v steps k s.l = false ∨ (okEarlier v steps k s.l = true ∧ 0 ≤ s.l ∧ s.l < k) := by
    cases h : okEarlier v steps k s.l with
    | false => exact .inl rfl
    | true => have := okEarlier_lt h; exact .inr ⟨rfl, by omega⟩
  have b2 : okEarlier v steps k s.r = false ∨ (okEarlier v steps k s.r = true ∧ 0 ≤ s.r ∧ s.r < k) := by
    cases h : okEarlier v steps k s.r with
    | false => exact .inl rfl
    | true => have := okEarlier_lt h; exact .inr ⟨rfl, by omega⟩
  refine Ctr.of (n := 105) (rs := [.tmp 6]) Tryz.func67 rfl rfl Tryz.ntmps67 rfl rfl (by kernel_rfl) Tryz.checked.mixed ?_
  simp (disch := first | omega | decide +kernel) only [hsd, el_ints, el_intss, el_steps, wrap_of, Int.toNat_natCast, toNat_pred, Int.toNat_zero, Nat.sub_zero, List.drop_zero, ← List.map_take, ← List.map_drop, go_sem, Nat.reduceEqDiff, Nat.reduceLT, Nat.reduceAdd, Nat.reduceMul, Nat.reduceSub, ↓reduceIte, reduceCtorEq, Nat.reduceLeDiff, Nat.reduceSubDiff, Nat.reduceBEq]
  rcases b1 with b1 | ⟨b1, b1a, b1b⟩
  · rw [b1] at c3
    (repeat' (first | (refine gsel_split (fun h => ?_) (fun h => ?_) <;> (have h' := h) <;> (try simp only [decide_eq_true_eq, decide_eq_false_iff_not, Bool.not_eq_true', Bool.not_eq_false', bne_iff_ne, ne_eq, beq_iff_eq, bne_eq_false_iff_eq, beq_eq_false_iff_ne, Int.ofNat_lt, Int.ofNat_le, Int.not_lt, Int.not_le, Decidable.not_not, Bool.and_eq_true, Bool.or_eq_true, Bool.or_eq_false_iff, gt_iff_lt, ge_iff_le] at h') <;> simp (disch := first | omega | decide +kernel) only [h, el_ints, el_intss, el_steps, wrap_of, Int.toNat_natCast, toNat_pred, Int.toNat_zero, Nat.sub_zero, List.drop_zero, ← List.map_take, ← List.map_drop, hsd, b1, go_sem, Nat.reduceEqDiff, Nat.reduceLT, Nat.reduceAdd, Nat.reduceMul, Nat.reduceSub, ↓reduceIte, reduceCtorEq, Nat.reduceLeDiff, Nat.reduceSubDiff, Nat.reduceBEq] <;> clear h) | ((first | refine callX_new (c1) rfl (by decide) ?_ | refine callY_new (c1) rfl ?_ | refine callX_new (within_ok _ _ _) rfl (by decide) ?_ | refine callY_new (within_ok _ _ _) rfl ?_ | refine callX_new (c2) rfl (by decide) ?_ | refine callY_new (c2) rfl ?_ | refine callX_shared (c3) rfl (by decide) ?_ | refine callY_shared (c3) rfl ?_ | refine hE _ _ ret_ne ?_ | refine hE _ _ exit_ne ?_) <;> try simp (disch := first | omega | decide +kernel) only [el_ints, el_intss, el_steps, wrap_of, Int.toNat_natCast, toNat_pred, Int.toNat_zero, Nat.sub_zero, List.drop_zero, ← List.map_take, ← List.map_drop, hsd, b1, go_sem, Nat.reduceEqDiff, Nat.reduceLT, Nat.reduceAdd, Nat.reduceMul, Nat.reduceSub, ↓reduceIte, reduceCtorEq, Nat.reduceLeDiff, Nat.reduceSubDiff, Nat.reduceBEq]) | (refine hN _ ?_ ?_ (Wk.auto (by simp [extraK, lk, killL, St.kill, wipeO, wipeS, AV.has, AV.hasL, AO.wipe, List.map_set, updSt, insL, dropS, ins]) (by simp [extraK, lk, killL, St.kill, wipeO, wipeS, AV.has, AV.hasL, AO.wipe, List.map_set, updSt, insL, dropS, ins]))) | (with_reducible refine And.intro ?_ ?_) | (with_reducible omega) | (exact ok_ints) | (exact cells_ints) | (exact no_mem) | (with_reducible exact plain_ints) | (refine le_maxLen ?_; omega) | (refine List.forall_mem_cons.2 ⟨?_, ?_⟩) | (simp only [go_sem, List.length_cons, List.length_nil, Nat.reduceAdd, Nat.reduceLT, Nat.zero_lt_succ, and_self, List.mem_cons, List.not_mem_nil, or_false, forall_eq]; done)))
    all_goals (clear c1 c2 c3 c4 c5 c6 hres)
    all_goals (first | (simp_all; done) | (simp only [h']; simp_all; done) | trace_state)
  · rw [b1] at c3
    rcases b2 with b2 | ⟨b2, b2a, b2b⟩
    · rw [b2] at c4
      (repeat' (first | (refine gsel_split (fun h => ?_) (fun h => ?_) <;> (have h' := h) <;> (try simp only [decide_eq_true_eq, decide_eq_false_iff_not, Bool.not_eq_true', Bool.not_eq_false', bne_iff_ne, ne_eq, beq_iff_eq, bne_eq_false_iff_eq, beq_eq_false_iff_ne, Int.ofNat_lt, Int.ofNat_le, Int.not_lt, Int.not_le, Decidable.not_not, Bool.and_eq_true, Bool.or_eq_true, Bool.or_eq_false_iff, gt_iff_lt, ge_iff_le] at h') <;> simp (disch := first | omega | decide +kernel) only [h, el_ints, el_intss, el_steps, wrap_of, Int.toNat_natCast, toNat_pred, Int.toNat_zero, Nat.sub_zero, List.drop_zero, ← List.map_take, ← List.map_drop, hsd, b1, b2, go_sem, Nat.reduceEqDiff, Nat.reduceLT, Nat.reduceAdd, Nat.reduceMul, Nat.reduceSub, ↓reduceIte, reduceCtorEq, Nat.reduceLeDiff, Nat.reduceSubDiff, Nat.reduceBEq] <;> clear h) | ((first | refine callX_new (c1) rfl (by decide) ?_ | refine callY_new (c1) rfl ?_ | refine callX_new (within_ok _ _ _) rfl (by decide) ?_ | refine callY_new (within_ok _ _ _) rfl ?_ | refine callX_new (c2) rfl (by decide) ?_ | refine callY_new (c2) rfl ?_ | refine callX_shared (c3) rfl (by decide) ?_ | refine callY_shared (c3) rfl ?_ | refine callX_shared (c4) rfl (by decide) ?_ | refine callY_shared (c4) rfl ?_ | refine callX_new (c5) rfl (by decide) ?_ | refine callY_new (c5) rfl ?_ | refine callX_new (c6) rfl (by decide) ?_ | refine callY_new (c6) rfl ?_ | refine hE _ _ ret_ne ?_ | refine hE _ _ exit_ne ?_) <;> try simp (disch := first | omega | decide +kernel) only [el_ints, el_intss, el_steps, wrap_of, Int.toNat_natCast, toNat_pred, Int.toNat_zero, Nat.sub_zero, List.drop_zero, ← List.map_take, ← List.map_drop, hsd, b1, b2, go_sem, Nat.reduceEqDiff, Nat.reduceLT, Nat.reduceAdd, Nat.reduceMul, Nat.reduceSub, ↓reduceIte, reduceCtorEq, Nat.reduceLeDiff, Nat.reduceSubDiff, Nat.reduceBEq]) | (refine hN _ ?_ ?_ (Wk.auto (by simp [extraK, lk, killL, St.kill, wipeO, wipeS, AV.has, AV.hasL, AO.wipe, List.map_set, updSt, insL, dropS, ins]) (by simp [extraK, lk, killL, St.kill, wipeO, wipeS, AV.has, AV.hasL, AO.wipe, List.map_set, updSt, insL, dropS, ins]))) | (with_reducible refine And.intro ?_ ?_) | (with_reducible omega) | (exact ok_ints) | (exact cells_ints) | (exact no_mem) | (with_reducible exact plain_ints) | (refine le_maxLen ?_; omega) | (refine List.forall_mem_cons.2 ⟨?_, ?_⟩) | (simp only [go_sem, List.length_cons, List.length_nil, Nat.reduceAdd, Nat.reduceLT, Nat.zero_lt_succ, and_self, List.mem_cons, List.not_mem_nil, or_false, forall_eq]; done)))
      all_goals (clear c1 c2 c3 c4 c5 c6 hres)
      all_goals (first | (simp_all; done) | (simp only [h']; simp_all; done) | trace_state)
    · rw [b2] at c4
      have c7 := hres b1 b2
      (repeat' (first | (refine gsel_split (fun h => ?_) (fun h => ?_) <;> (have h' := h) <;> (try simp only [decide_eq_true_eq, decide_eq_false_iff_not, Bool.not_eq_true', Bool.not_eq_false', bne_iff_ne, ne_eq, beq_iff_eq, bne_eq_false_iff_eq, beq_eq_false_iff_ne, Int.ofNat_lt, Int.ofNat_le, Int.not_lt, Int.not_le, Decidable.not_not, Bool.and_eq_true, Bool.or_eq_true, Bool.or_eq_false_iff, gt_iff_lt, ge_iff_le] at h') <;> simp (disch := first | omega | decide +kernel) only [h, el_ints, el_intss, el_steps, wrap_of, Int.toNat_natCast, toNat_pred, Int.toNat_zero, Nat.sub_zero, List.drop_zero, ← List.map_take, ← List.map_drop, hsd, b1, b2, go_sem, Nat.reduceEqDiff, Nat.reduceLT, Nat.reduceAdd, Nat.reduceMul, Nat.reduceSub, ↓reduceIte, reduceCtorEq, Nat.reduceLeDiff, Nat.reduceSubDiff, Nat.reduceBEq] <;> clear h) | ((first | refine callX_new (c1) rfl (by decide) ?_ | refine callY_new (c1) rfl ?_ | refine callX_new (within_ok _ _ _) rfl (by decide) ?_ | refine callY_new (within_ok _ _ _) rfl ?_ | refine callX_new (c2) rfl (by decide) ?_ | refine callY_new (c2) rfl ?_ | refine callX_shared (c3) rfl (by decide) ?_ | refine callY_shared (c3) rfl ?_ | refine callX_shared (c4) rfl (by decide) ?_ | refine callY_shared (c4) rfl ?_ | refine callX_new (c5) rfl (by decide) ?_ | refine callY_new (c5) rfl ?_ | refine callX_new (c7) rfl (by decide) ?_ | refine callY_new (c7) rfl ?_ | refine callX_new (c6) rfl (by decide) ?_ | refine callY_new (c6) rfl ?_ | refine callX_new (isVar_ok _ _) rfl (by decide) ?_ | refine callY_new (isVar_ok _ _) rfl ?_ | refine hE _ _ ret_ne ?_ | refine hE _ _ exit_ne ?_) <;> try simp (disch := first | omega | decide +kernel) only [el_ints, el_intss, el_steps, wrap_of, Int.toNat_natCast, toNat_pred, Int.toNat_zero, Nat.sub_zero, List.drop_zero, ← List.map_take, ← List.map_drop, hsd, b1, b2, go_sem, Nat.reduceEqDiff, Nat.reduceLT, Nat.reduceAdd, Nat.reduceMul, Nat.reduceSub, ↓reduceIte, reduceCtorEq, Nat.reduceLeDiff, Nat.reduceSubDiff, Nat.reduceBEq]) | (refine hN _ ?_ ?_ (Wk.auto (by simp [extraK, lk, killL, St.kill, wipeO, wipeS, AV.has, AV.hasL, AO.wipe, List.map_set, updSt, insL, dropS, ins]) (by simp [extraK, lk, killL, St.kill, wipeO, wipeS, AV.has, AV.hasL, AO.wipe, List.map_set, updSt, insL, dropS, ins]))) | (with_reducible refine And.intro ?_ ?_) | (with_reducible omega) | (exact ok_ints) | (exact cells_ints) | (exact no_mem) | (with_reducible exact plain_ints) | (refine le_maxLen ?_; omega) | (refine List.forall_mem_cons.2 ⟨?_, ?_⟩) | (simp only [go_sem, List.length_cons, List.length_nil, Nat.reduceAdd, Nat.reduceLT, Nat.zero_lt_succ, and_self, List.mem_cons, List.not_mem_nil, or_false, forall_eq]; done)))
      all_goals (clear c1 c2 c3 c4 c5 c6 c7 hres)
      all_goals (first | (simp_all; done) | (simp only [h']; simp_all; done) | trace_state)
end Abs.Y
