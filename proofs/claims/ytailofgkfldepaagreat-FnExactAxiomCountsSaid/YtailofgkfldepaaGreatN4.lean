/- What functions of this program compute, as contracts over plain data, with what the proofs need of them. No condition. -/
import Derived.Test.YtailofgkfldepaaGreatN3
set_option linter.all false
namespace Abs.Y
open Go Go.Proofs Abs
set_option maxRecDepth 100000

/-! ### AxiomCounts -/
/-- One step counted, if it is an axiom. -/
def axS (steps : List Step) (out : List Int) (i : Int) : List Int := if (steps.getD i.toNat Step.z).l < 0 then incI out (steps.getD i.toNat Step.z).r else out
def axF (n : Nat) (steps : List Step) (is : List Int) : List Int := is.foldl (axS steps) (List.replicate n 0)
theorem axS_len (steps : List Step) (out : List Int) (i : Int) : (axS steps out i).length = out.length := by
  unfold axS; split
  · simp [incI]
  · rfl
theorem axF_len (n : Nat) (steps : List Step) (is : List Int) : (axF n steps is).length = n := by
  have : ∀ (is l : List Int), (is.foldl (axS steps) l).length = l.length := by
    intro is
    induction is with
    | nil => intro l; rfl
    | cons i r ih => intro l; rw [List.foldl_cons, ih, axS_len]
  unfold axF; rw [this]; simp
theorem axF_app (n : Nat) (steps : List Step) (is : List Int) (i : Int) : axF n steps (is ++ [i]) = axS steps (axF n steps is) i := by simp [axF]
theorem ax_fine {v : Int} {cs : List (List Int)} {steps : List Step} (h : proofI v cs steps = true) (k : Nat) (hk : k < steps.length) (hl : (steps.getD k Step.z).l < 0) : 0 ≤ (steps.getD k Step.z).r ∧ (steps.getD k Step.z).r < cs.length := by
  have hf := fine_proof h k hk
  simp only [proofI, Bool.and_eq_true] at h
  have h := h.1
  simp only [goodI, Bool.and_eq_true, decide_eq_true_eq] at h
  have hc := idxR_neg (show idxR (fun k => !correctI v cs steps k) steps.length < 0 from h.2) k hk
  simp only [Bool.not_eq_false'] at hc
  simp only [correctI, Bool.and_eq_true] at hc
  have hc := hc.2
  unfold FineS at hf
  rw [if_pos (by omega)] at hc
  simp only [Bool.and_eq_true, decide_eq_true_eq] at hc
  omega
theorem incI_bd {l : List Int} {k : Int} {b : Int} (h0 : 0 ≤ k) (h1 : k < l.length) (h : ∀ j, 0 ≤ l.getD j 0 ∧ l.getD j 0 ≤ b) : ∀ j, 0 ≤ (incI l k).getD j 0 ∧ (incI l k).getD j 0 ≤ b + 1 := fun x => by
  rw [incI, set_getDz 0 _ _ _ _ (by omega)]
  have := h x
  have := h k.toNat
  split <;> omega
theorem rep_get (n j : Nat) : (List.replicate n (0 : Int)).getD j 0 = 0 := by
  simp only [List.getD_eq_getElem?_getD, List.getElem?_replicate]; split <;> simp
theorem axF_bd (n : Nat) (steps : List Step) (hr : ∀ k, k < steps.length → (steps.getD k Step.z).l < 0 → 0 ≤ (steps.getD k Step.z).r ∧ (steps.getD k Step.z).r < n) :
    ∀ is : List Int, (∀ i ∈ is, 0 ≤ i ∧ i < steps.length) → ∀ j, 0 ≤ (axF n steps is).getD j 0 ∧ (axF n steps is).getD j 0 ≤ is.length := by
  intro is0
  obtain ⟨is, rfl⟩ : ∃ is : List Int, is.reverse = is0 := ⟨is0.reverse, by simp⟩
  induction is with
  | nil => intro _ j; simp only [axF, List.reverse_nil, List.foldl_nil, rep_get]; simp
  | cons i is ih =>
    rw [List.reverse_cons]
    generalize is.reverse = is at *
    intro h j
    have ih := ih fun x hx => h x (by simp [hx])
    have hi := h i (by simp)
    rw [axF_app, axS]
    simp only [List.length_append, List.length_singleton, Int.natCast_add]
    split
    · rename_i hl
      have := hr i.toNat (by omega) hl
      exact incI_bd this.1 (by rw [axF_len]; exact this.2) ih j
    · have := ih j; omega
def axR (v : Int) (cs : List (List Int)) (steps : List Step) : List Int := if proofI v cs steps then axF cs.length steps (needI steps) else []
theorem axR_len {v : Int} {cs : List (List Int)} {steps : List Step} (z : Sz cs steps) : (axR v cs steps).length ≤ 4294967296 := by
  have := z.hcl'
  unfold axR; split
  · rw [axF_len]; omega
  · simp
theorem needI_mem {steps : List Step} : ∀ i ∈ needI steps, 0 ≤ i ∧ i < steps.length := fun i hi => by
  unfold needI at hi
  obtain ⟨q, hq, rfl⟩ := List.mem_map.1 hi
  have := List.mem_range.1 (List.mem_filter.1 hq).1
  omega
set_option maxHeartbeats 4000000 in
theorem axiomCounts_ok (v : Int) (cs : List (List Int)) (steps : List Step) (z : Sz cs steps) :
    Ctr Tryz.prog 18 [.agg [.int .i64 v, .slice (cs.map D.ints)], .slice (steps.map D.step)] false (.tup [.sl 0, .d (.bool (proofI v cs steps))]) [(0, .arr 3 1 ((axR v cs steps).map (.int .i64)))] := by
  have hl := z.hl
  have hcl := z.hcl'
  have hp := isProof_ok v cs steps z
  unfold axR
  refine Ctr.of (n := 41) (rs := [.tmp 4, .tmp 5]) Tryz.func18 rfl rfl Tryz.ntmps18 rfl rfl (by kernel_rfl) Tryz.checked.mixed ?_
  cases hb : proofI v cs steps with
  | false =>
    rw [hb] at hp
    simp (disch := first | omega | decide +kernel) only [el_ints, el_intss, el_steps, wrap_of, Int.toNat_natCast, toNat_pred, Int.toNat_zero, Nat.sub_zero, List.drop_zero, ← List.map_take, ← List.map_drop, go_sem, Nat.reduceEqDiff, Nat.reduceLT, Nat.reduceAdd, Nat.reduceMul, Nat.reduceSub, ↓reduceIte, reduceCtorEq, Nat.reduceLeDiff, Nat.reduceSubDiff, Nat.reduceBEq]
    (repeat' (first | (refine gsel_split (fun h => ?_) (fun h => ?_) <;> (have h' := h) <;> (try simp only [decide_eq_true_eq, decide_eq_false_iff_not, Bool.not_eq_true', Bool.not_eq_false', bne_iff_ne, ne_eq, beq_iff_eq, bne_eq_false_iff_eq, beq_eq_false_iff_ne, Int.ofNat_lt, Int.ofNat_le, Int.not_lt, Int.not_le, Decidable.not_not, Bool.and_eq_true, Bool.or_eq_true, Bool.or_eq_false_iff, gt_iff_lt, ge_iff_le] at h') <;> simp (disch := first | omega | decide +kernel) only [h, el_ints, el_intss, el_steps, wrap_of, Int.toNat_natCast, toNat_pred, Int.toNat_zero, Nat.sub_zero, List.drop_zero, ← List.map_take, ← List.map_drop, go_sem, Nat.reduceEqDiff, Nat.reduceLT, Nat.reduceAdd, Nat.reduceMul, Nat.reduceSub, ↓reduceIte, reduceCtorEq, Nat.reduceLeDiff, Nat.reduceSubDiff, Nat.reduceBEq] <;> clear h) | ((first | refine callX_new (hp) rfl (by decide) ?_ | refine callY_new (hp) rfl ?_ | refine hE _ _ ret_ne ?_ | refine hE _ _ exit_ne ?_) <;> try simp (disch := first | omega | decide +kernel) only [el_ints, el_intss, el_steps, wrap_of, Int.toNat_natCast, toNat_pred, Int.toNat_zero, Nat.sub_zero, List.drop_zero, ← List.map_take, ← List.map_drop, go_sem, Nat.reduceEqDiff, Nat.reduceLT, Nat.reduceAdd, Nat.reduceMul, Nat.reduceSub, ↓reduceIte, reduceCtorEq, Nat.reduceLeDiff, Nat.reduceSubDiff, Nat.reduceBEq]) | (refine hN _ ?_ ?_ (Wk.auto (by simp [extraK, lk, killL, St.kill, wipeO, wipeS, AV.has, AV.hasL, AO.wipe, List.map_set, updSt, insL, dropS, ins]) (by simp [extraK, lk, killL, St.kill, wipeO, wipeS, AV.has, AV.hasL, AO.wipe, List.map_set, updSt, insL, dropS, ins]))) | (with_reducible refine And.intro ?_ ?_) | (with_reducible omega) | (exact ok_ints) | (exact cells_ints) | (exact no_mem) | (with_reducible exact plain_ints) | (refine le_maxLen ?_; omega) | (refine List.forall_mem_cons.2 ⟨?_, ?_⟩) | (simp only [go_sem, List.length_cons, List.length_nil, Nat.reduceAdd, Nat.reduceLT, Nat.zero_lt_succ, and_self, List.mem_cons, List.not_mem_nil, or_false, forall_eq]; done)))
    (first | exact ret_sld _ rfl rfl rfl plain_ints rfl | exact ret_sld _ rfl rfl rfl no_mem rfl)
  | true =>
    rw [hb] at hp
    have hax := ax_fine hb
    have c1 := neededSteps_ok steps hl (fine_proof hb)
    have hmem := needI_mem (steps := steps)
    have hnl := takeN_len steps steps.length
    change (needI steps).length ≤ _ at hnl
    generalize needI steps = is at *
    have hbd := axF_bd cs.length steps hax
    simp (disch := first | omega | decide +kernel) only [el_ints, el_intss, el_steps, wrap_of, Int.toNat_natCast, toNat_pred, Int.toNat_zero, Nat.sub_zero, List.drop_zero, ← List.map_take, ← List.map_drop, go_sem, Nat.reduceEqDiff, Nat.reduceLT, Nat.reduceAdd, Nat.reduceMul, Nat.reduceSub, ↓reduceIte, reduceCtorEq, Nat.reduceLeDiff, Nat.reduceSubDiff, Nat.reduceBEq]
    (repeat' (first | (refine gsel_split (fun h => ?_) (fun h => ?_) <;> (have h' := h) <;> (try simp only [decide_eq_true_eq, decide_eq_false_iff_not, Bool.not_eq_true', Bool.not_eq_false', bne_iff_ne, ne_eq, beq_iff_eq, bne_eq_false_iff_eq, beq_eq_false_iff_ne, Int.ofNat_lt, Int.ofNat_le, Int.not_lt, Int.not_le, Decidable.not_not, Bool.and_eq_true, Bool.or_eq_true, Bool.or_eq_false_iff, gt_iff_lt, ge_iff_le] at h') <;> simp (disch := first | omega | decide +kernel) only [h, el_ints, el_intss, el_steps, wrap_of, Int.toNat_natCast, toNat_pred, Int.toNat_zero, Nat.sub_zero, List.drop_zero, ← List.map_take, ← List.map_drop, go_sem, Nat.reduceEqDiff, Nat.reduceLT, Nat.reduceAdd, Nat.reduceMul, Nat.reduceSub, ↓reduceIte, reduceCtorEq, Nat.reduceLeDiff, Nat.reduceSubDiff, Nat.reduceBEq] <;> clear h) | ((first | refine callX_new (hp) rfl (by decide) ?_ | refine callY_new (hp) rfl ?_ | refine callX_new (c1) rfl (by decide) ?_ | refine callY_new (c1) rfl ?_ | refine hE _ _ ret_ne ?_ | refine hE _ _ exit_ne ?_) <;> try simp (disch := first | omega | decide +kernel) only [el_ints, el_intss, el_steps, wrap_of, Int.toNat_natCast, toNat_pred, Int.toNat_zero, Nat.sub_zero, List.drop_zero, ← List.map_take, ← List.map_drop, go_sem, Nat.reduceEqDiff, Nat.reduceLT, Nat.reduceAdd, Nat.reduceMul, Nat.reduceSub, ↓reduceIte, reduceCtorEq, Nat.reduceLeDiff, Nat.reduceSubDiff, Nat.reduceBEq]) | (refine hN _ ?_ ?_ (Wk.auto (by simp [extraK, lk, killL, St.kill, wipeO, wipeS, AV.has, AV.hasL, AO.wipe, List.map_set, updSt, insL, dropS, ins]) (by simp [extraK, lk, killL, St.kill, wipeO, wipeS, AV.has, AV.hasL, AO.wipe, List.map_set, updSt, insL, dropS, ins]))) | (with_reducible refine And.intro ?_ ?_) | (with_reducible omega) | (exact ok_ints) | (exact cells_ints) | (exact no_mem) | (with_reducible exact plain_ints) | (refine le_maxLen ?_; omega) | (refine List.forall_mem_cons.2 ⟨?_, ?_⟩) | (simp only [go_sem, List.length_cons, List.length_nil, Nat.reduceAdd, Nat.reduceLT, Nat.zero_lt_succ, and_self, List.mem_cons, List.not_mem_nil, or_false, forall_eq]; done)))
    rw [show List.replicate cs.length (D.int .i64 0) = (axF cs.length steps []).map (D.int .i64) by simp [axF]]
    refine Ok.loopN [39, 38, 37, 36, 35, 34, 33, 32, 31, 30, 29, 28, 27, 26, 25, 24, 23, 22, 21, 20, 17, 16, 15, 14, 13, 12, 11, 10, 9, 8, 7, 3, 2, 0] (fun i _ => [(20, .d (.int .i64 (i : Nat))), (6, .sl 16)]) (fun _ (cur : List Int) => [(16, .arr 3 1 (List.map (D.int .i64) cur))]) is.length
      (fun i cur => cur = axF cs.length steps (is.take i)) (axF cs.length steps []) rfl (Wk.auto (by simp [extraK, lk, killL, St.kill, wipeO, wipeS, AV.has, AV.hasL, AO.wipe, List.map_set, updSt, insL, dropS, ins]) (by simp [extraK, lk, killL, St.kill, wipeO, wipeS, AV.has, AV.hasL, AO.wipe, List.map_set, updSt, insL, dropS, ins])) ?_
    rintro R i cur hN hE hi hcu
    have hcl2 := axF_len cs.length steps (is.take i)
    rw [← hcu] at hcl2
    by_cases hlt : i < is.length
    · have hm := hmem _ (getD_mem (z := (0 : Int)) hlt)
      have hbi := hbd (is.take i) (fun x hx => hmem x (List.mem_of_mem_take hx))
      rw [← hcu] at hbi
      have hln : (is.take i).length ≤ 1048576 := by rw [List.length_take]; omega
      have hS := axF_app cs.length steps (is.take i) (is.getD i 0)
      rw [← take_succ (0 : Int) is i hlt, ← hcu] at hS
      generalize hk : is.getD i 0 = p at *
      have hax := hax p.toNat (by omega)
      unfold axS at hS
      generalize hsd : steps.getD p.toNat Step.z = s at *
      have hbr := hbi s.r.toNat
      have c2 := isAxiom_ok s
      by_cases hs : s.l < 0
      · have hax := hax hs
        rw [decide_eq_true hs] at c2
        rw [if_pos hs] at hS
        simp (disch := first | omega | decide +kernel) only [hk, hsd, el_ints, el_intss, el_steps, wrap_of, Int.toNat_natCast, toNat_pred, Int.toNat_zero, Nat.sub_zero, List.drop_zero, ← List.map_take, ← List.map_drop, go_sem, Nat.reduceEqDiff, Nat.reduceLT, Nat.reduceAdd, Nat.reduceMul, Nat.reduceSub, ↓reduceIte, reduceCtorEq, Nat.reduceLeDiff, Nat.reduceSubDiff, Nat.reduceBEq]
        (repeat' (first | (refine gsel_split (fun h => ?_) (fun h => ?_) <;> (have h' := h) <;> (try simp only [decide_eq_true_eq, decide_eq_false_iff_not, Bool.not_eq_true', Bool.not_eq_false', bne_iff_ne, ne_eq, beq_iff_eq, bne_eq_false_iff_eq, beq_eq_false_iff_ne, Int.ofNat_lt, Int.ofNat_le, Int.not_lt, Int.not_le, Decidable.not_not, Bool.and_eq_true, Bool.or_eq_true, Bool.or_eq_false_iff, gt_iff_lt, ge_iff_le] at h') <;> simp (disch := first | omega | decide +kernel) only [h, el_ints, el_intss, el_steps, wrap_of, Int.toNat_natCast, toNat_pred, Int.toNat_zero, Nat.sub_zero, List.drop_zero, ← List.map_take, ← List.map_drop, hk, hsd, D.step, D.ints, go_sem, Nat.reduceEqDiff, Nat.reduceLT, Nat.reduceAdd, Nat.reduceMul, Nat.reduceSub, ↓reduceIte, reduceCtorEq, Nat.reduceLeDiff, Nat.reduceSubDiff, Nat.reduceBEq] <;> clear h) | ((first | refine callX_new (c2) rfl (by decide) ?_ | refine callY_new (c2) rfl ?_ | refine hE _ _ ret_ne ?_ | refine hE _ _ exit_ne ?_) <;> try simp (disch := first | omega | decide +kernel) only [el_ints, el_intss, el_steps, wrap_of, Int.toNat_natCast, toNat_pred, Int.toNat_zero, Nat.sub_zero, List.drop_zero, ← List.map_take, ← List.map_drop, hk, hsd, D.step, D.ints, go_sem, Nat.reduceEqDiff, Nat.reduceLT, Nat.reduceAdd, Nat.reduceMul, Nat.reduceSub, ↓reduceIte, reduceCtorEq, Nat.reduceLeDiff, Nat.reduceSubDiff, Nat.reduceBEq]) | (refine hN _ ?_ ?_ (Wk.auto (by simp [extraK, lk, killL, St.kill, wipeO, wipeS, AV.has, AV.hasL, AO.wipe, List.map_set, updSt, insL, dropS, ins]) (by simp [extraK, lk, killL, St.kill, wipeO, wipeS, AV.has, AV.hasL, AO.wipe, List.map_set, updSt, insL, dropS, ins]))) | (with_reducible refine And.intro ?_ ?_) | (with_reducible omega) | (exact ok_ints) | (exact cells_ints) | (exact no_mem) | (with_reducible exact plain_ints) | (refine le_maxLen ?_; omega) | (refine List.forall_mem_cons.2 ⟨?_, ?_⟩) | (simp only [go_sem, List.length_cons, List.length_nil, Nat.reduceAdd, Nat.reduceLT, Nat.zero_lt_succ, and_self, List.mem_cons, List.not_mem_nil, or_false, forall_eq]; done)))
        refine hN _ _ hlt hS.symm (Wk.auto (by simp [extraK, lk, killL, St.kill, wipeO, wipeS, AV.has, AV.hasL, AO.wipe, List.map_set, updSt, insL, dropS, ins, incI]) (by simp [extraK, lk, killL, St.kill, wipeO, wipeS, AV.has, AV.hasL, AO.wipe, List.map_set, updSt, insL, dropS, ins, incI]))
      · rw [decide_eq_false hs] at c2
        rw [if_neg hs] at hS
        simp (disch := first | omega | decide +kernel) only [hk, hsd, el_ints, el_intss, el_steps, wrap_of, Int.toNat_natCast, toNat_pred, Int.toNat_zero, Nat.sub_zero, List.drop_zero, ← List.map_take, ← List.map_drop, go_sem, Nat.reduceEqDiff, Nat.reduceLT, Nat.reduceAdd, Nat.reduceMul, Nat.reduceSub, ↓reduceIte, reduceCtorEq, Nat.reduceLeDiff, Nat.reduceSubDiff, Nat.reduceBEq]
        (repeat' (first | (refine gsel_split (fun h => ?_) (fun h => ?_) <;> (have h' := h) <;> (try simp only [decide_eq_true_eq, decide_eq_false_iff_not, Bool.not_eq_true', Bool.not_eq_false', bne_iff_ne, ne_eq, beq_iff_eq, bne_eq_false_iff_eq, beq_eq_false_iff_ne, Int.ofNat_lt, Int.ofNat_le, Int.not_lt, Int.not_le, Decidable.not_not, Bool.and_eq_true, Bool.or_eq_true, Bool.or_eq_false_iff, gt_iff_lt, ge_iff_le] at h') <;> simp (disch := first | omega | decide +kernel) only [h, el_ints, el_intss, el_steps, wrap_of, Int.toNat_natCast, toNat_pred, Int.toNat_zero, Nat.sub_zero, List.drop_zero, ← List.map_take, ← List.map_drop, hk, hsd, D.step, D.ints, go_sem, Nat.reduceEqDiff, Nat.reduceLT, Nat.reduceAdd, Nat.reduceMul, Nat.reduceSub, ↓reduceIte, reduceCtorEq, Nat.reduceLeDiff, Nat.reduceSubDiff, Nat.reduceBEq] <;> clear h) | ((first | refine callX_new (c2) rfl (by decide) ?_ | refine callY_new (c2) rfl ?_ | refine hE _ _ ret_ne ?_ | refine hE _ _ exit_ne ?_) <;> try simp (disch := first | omega | decide +kernel) only [el_ints, el_intss, el_steps, wrap_of, Int.toNat_natCast, toNat_pred, Int.toNat_zero, Nat.sub_zero, List.drop_zero, ← List.map_take, ← List.map_drop, hk, hsd, D.step, D.ints, go_sem, Nat.reduceEqDiff, Nat.reduceLT, Nat.reduceAdd, Nat.reduceMul, Nat.reduceSub, ↓reduceIte, reduceCtorEq, Nat.reduceLeDiff, Nat.reduceSubDiff, Nat.reduceBEq]) | (refine hN _ ?_ ?_ (Wk.auto (by simp [extraK, lk, killL, St.kill, wipeO, wipeS, AV.has, AV.hasL, AO.wipe, List.map_set, updSt, insL, dropS, ins]) (by simp [extraK, lk, killL, St.kill, wipeO, wipeS, AV.has, AV.hasL, AO.wipe, List.map_set, updSt, insL, dropS, ins]))) | (with_reducible refine And.intro ?_ ?_) | (with_reducible omega) | (exact ok_ints) | (exact cells_ints) | (exact no_mem) | (with_reducible exact plain_ints) | (refine le_maxLen ?_; omega) | (refine List.forall_mem_cons.2 ⟨?_, ?_⟩) | (simp only [go_sem, List.length_cons, List.length_nil, Nat.reduceAdd, Nat.reduceLT, Nat.zero_lt_succ, and_self, List.mem_cons, List.not_mem_nil, or_false, forall_eq]; done)))
        refine hN _ _ hlt hS.symm (Wk.auto (by simp [extraK, lk, killL, St.kill, wipeO, wipeS, AV.has, AV.hasL, AO.wipe, List.map_set, updSt, insL, dropS, ins, ]) (by simp [extraK, lk, killL, St.kill, wipeO, wipeS, AV.has, AV.hasL, AO.wipe, List.map_set, updSt, insL, dropS, ins, ]))
    · obtain rfl : i = is.length := by omega
      rw [List.take_length] at hcu
      simp (disch := first | omega | decide +kernel) only [el_ints, el_intss, el_steps, wrap_of, Int.toNat_natCast, toNat_pred, Int.toNat_zero, Nat.sub_zero, List.drop_zero, ← List.map_take, ← List.map_drop, go_sem, Nat.reduceEqDiff, Nat.reduceLT, Nat.reduceAdd, Nat.reduceMul, Nat.reduceSub, ↓reduceIte, reduceCtorEq, Nat.reduceLeDiff, Nat.reduceSubDiff, Nat.reduceBEq]
      (repeat' (first | (refine gsel_split (fun h => ?_) (fun h => ?_) <;> (have h' := h) <;> (try simp only [decide_eq_true_eq, decide_eq_false_iff_not, Bool.not_eq_true', Bool.not_eq_false', bne_iff_ne, ne_eq, beq_iff_eq, bne_eq_false_iff_eq, beq_eq_false_iff_ne, Int.ofNat_lt, Int.ofNat_le, Int.not_lt, Int.not_le, Decidable.not_not, Bool.and_eq_true, Bool.or_eq_true, Bool.or_eq_false_iff, gt_iff_lt, ge_iff_le] at h') <;> simp (disch := first | omega | decide +kernel) only [h, el_ints, el_intss, el_steps, wrap_of, Int.toNat_natCast, toNat_pred, Int.toNat_zero, Nat.sub_zero, List.drop_zero, ← List.map_take, ← List.map_drop, go_sem, Nat.reduceEqDiff, Nat.reduceLT, Nat.reduceAdd, Nat.reduceMul, Nat.reduceSub, ↓reduceIte, reduceCtorEq, Nat.reduceLeDiff, Nat.reduceSubDiff, Nat.reduceBEq] <;> clear h) | ((first | refine hE _ _ ret_ne ?_ | refine hE _ _ exit_ne ?_) <;> try simp (disch := first | omega | decide +kernel) only [el_ints, el_intss, el_steps, wrap_of, Int.toNat_natCast, toNat_pred, Int.toNat_zero, Nat.sub_zero, List.drop_zero, ← List.map_take, ← List.map_drop, go_sem, Nat.reduceEqDiff, Nat.reduceLT, Nat.reduceAdd, Nat.reduceMul, Nat.reduceSub, ↓reduceIte, reduceCtorEq, Nat.reduceLeDiff, Nat.reduceSubDiff, Nat.reduceBEq]) | (refine hN _ ?_ ?_ (Wk.auto (by simp [extraK, lk, killL, St.kill, wipeO, wipeS, AV.has, AV.hasL, AO.wipe, List.map_set, updSt, insL, dropS, ins]) (by simp [extraK, lk, killL, St.kill, wipeO, wipeS, AV.has, AV.hasL, AO.wipe, List.map_set, updSt, insL, dropS, ins]))) | (with_reducible refine And.intro ?_ ?_) | (with_reducible omega) | (exact ok_ints) | (exact cells_ints) | (exact no_mem) | (with_reducible exact plain_ints) | (refine le_maxLen ?_; omega) | (refine List.forall_mem_cons.2 ⟨?_, ?_⟩) | (simp only [go_sem, List.length_cons, List.length_nil, Nat.reduceAdd, Nat.reduceLT, Nat.zero_lt_succ, and_self, List.mem_cons, List.not_mem_nil, or_false, forall_eq]; done)))
      rw [hcu]
      (first | exact ret_sld _ rfl rfl rfl plain_ints rfl | exact ret_sld _ rfl rfl rfl no_mem rfl)
theorem axF_take (n : Nat) (steps : List Step) (k : Nat) : axF n steps (takeN steps (k + 1)) = if onA steps k then axS steps (axF n steps (takeN steps k)) k else axF n steps (takeN steps k) := by
  rw [takeN_succ]
  split
  · rw [axF_app]
  · rfl
set_option maxHeartbeats 4000000 in
theorem specAxiomCounts_ok (v : Int) (cs : List (List Int)) (steps : List Step) (z : Sz cs steps) :
    Ctr Tryz.prog 17 [.agg [.int .i64 v, .slice (cs.map D.ints)], .slice (steps.map D.step)] false (.tup [.sl 0, .d (.bool (proofI v cs steps))]) [(0, .arr 3 1 ((axR v cs steps).map (.int .i64)))] := by
  have hl := z.hl
  have hcl := z.hcl'
  have hp := l8Takes_ok v cs steps z
  unfold axR
  refine Ctr.of (n := 54) (rs := [.tmp 4, .tmp 5]) Tryz.func17 rfl rfl Tryz.ntmps17 rfl rfl (by kernel_rfl) Tryz.checked.mixed ?_
  cases hb : proofI v cs steps with
  | false =>
    rw [hb] at hp
    simp (disch := first | omega | decide +kernel) only [el_ints, el_intss, el_steps, wrap_of, Int.toNat_natCast, toNat_pred, Int.toNat_zero, Nat.sub_zero, List.drop_zero, ← List.map_take, ← List.map_drop, go_sem, Nat.reduceEqDiff, Nat.reduceLT, Nat.reduceAdd, Nat.reduceMul, Nat.reduceSub, ↓reduceIte, reduceCtorEq, Nat.reduceLeDiff, Nat.reduceSubDiff, Nat.reduceBEq]
    (repeat' (first | (refine gsel_split (fun h => ?_) (fun h => ?_) <;> (have h' := h) <;> (try simp only [decide_eq_true_eq, decide_eq_false_iff_not, Bool.not_eq_true', Bool.not_eq_false', bne_iff_ne, ne_eq, beq_iff_eq, bne_eq_false_iff_eq, beq_eq_false_iff_ne, Int.ofNat_lt, Int.ofNat_le, Int.not_lt, Int.not_le, Decidable.not_not, Bool.and_eq_true, Bool.or_eq_true, Bool.or_eq_false_iff, gt_iff_lt, ge_iff_le] at h') <;> simp (disch := first | omega | decide +kernel) only [h, el_ints, el_intss, el_steps, wrap_of, Int.toNat_natCast, toNat_pred, Int.toNat_zero, Nat.sub_zero, List.drop_zero, ← List.map_take, ← List.map_drop, go_sem, Nat.reduceEqDiff, Nat.reduceLT, Nat.reduceAdd, Nat.reduceMul, Nat.reduceSub, ↓reduceIte, reduceCtorEq, Nat.reduceLeDiff, Nat.reduceSubDiff, Nat.reduceBEq] <;> clear h) | ((first | refine callX_new (hp) rfl (by decide) ?_ | refine callY_new (hp) rfl ?_ | refine hE _ _ ret_ne ?_ | refine hE _ _ exit_ne ?_) <;> try simp (disch := first | omega | decide +kernel) only [el_ints, el_intss, el_steps, wrap_of, Int.toNat_natCast, toNat_pred, Int.toNat_zero, Nat.sub_zero, List.drop_zero, ← List.map_take, ← List.map_drop, go_sem, Nat.reduceEqDiff, Nat.reduceLT, Nat.reduceAdd, Nat.reduceMul, Nat.reduceSub, ↓reduceIte, reduceCtorEq, Nat.reduceLeDiff, Nat.reduceSubDiff, Nat.reduceBEq]) | (refine hN _ ?_ ?_ (Wk.auto (by simp [extraK, lk, killL, St.kill, wipeO, wipeS, AV.has, AV.hasL, AO.wipe, List.map_set, updSt, insL, dropS, ins]) (by simp [extraK, lk, killL, St.kill, wipeO, wipeS, AV.has, AV.hasL, AO.wipe, List.map_set, updSt, insL, dropS, ins]))) | (with_reducible refine And.intro ?_ ?_) | (with_reducible omega) | (exact ok_ints) | (exact cells_ints) | (exact no_mem) | (with_reducible exact plain_ints) | (refine le_maxLen ?_; omega) | (refine List.forall_mem_cons.2 ⟨?_, ?_⟩) | (simp only [go_sem, List.length_cons, List.length_nil, Nat.reduceAdd, Nat.reduceLT, Nat.zero_lt_succ, and_self, List.mem_cons, List.not_mem_nil, or_false, forall_eq]; done)))
    (first | exact ret_sld _ rfl rfl rfl plain_ints rfl | exact ret_sld _ rfl rfl rfl no_mem rfl)
  | true =>
    rw [hb] at hp
    have hax := ax_fine hb
    have h0 : 0 < steps.length := by
      simp only [proofI, Bool.and_eq_true, decide_eq_true_eq] at hb; exact hb.2
    have c1 := l8Needed_ok steps hl h0 (fine_proof hb)
    have hbd := axF_bd cs.length steps hax
    simp (disch := first | omega | decide +kernel) only [el_ints, el_intss, el_steps, wrap_of, Int.toNat_natCast, toNat_pred, Int.toNat_zero, Nat.sub_zero, List.drop_zero, ← List.map_take, ← List.map_drop, go_sem, Nat.reduceEqDiff, Nat.reduceLT, Nat.reduceAdd, Nat.reduceMul, Nat.reduceSub, ↓reduceIte, reduceCtorEq, Nat.reduceLeDiff, Nat.reduceSubDiff, Nat.reduceBEq]
    (repeat' (first | (refine gsel_split (fun h => ?_) (fun h => ?_) <;> (have h' := h) <;> (try simp only [decide_eq_true_eq, decide_eq_false_iff_not, Bool.not_eq_true', Bool.not_eq_false', bne_iff_ne, ne_eq, beq_iff_eq, bne_eq_false_iff_eq, beq_eq_false_iff_ne, Int.ofNat_lt, Int.ofNat_le, Int.not_lt, Int.not_le, Decidable.not_not, Bool.and_eq_true, Bool.or_eq_true, Bool.or_eq_false_iff, gt_iff_lt, ge_iff_le] at h') <;> simp (disch := first | omega | decide +kernel) only [h, el_ints, el_intss, el_steps, wrap_of, Int.toNat_natCast, toNat_pred, Int.toNat_zero, Nat.sub_zero, List.drop_zero, ← List.map_take, ← List.map_drop, go_sem, Nat.reduceEqDiff, Nat.reduceLT, Nat.reduceAdd, Nat.reduceMul, Nat.reduceSub, ↓reduceIte, reduceCtorEq, Nat.reduceLeDiff, Nat.reduceSubDiff, Nat.reduceBEq] <;> clear h) | ((first | refine callX_new (hp) rfl (by decide) ?_ | refine callY_new (hp) rfl ?_ | refine callX_new (c1) rfl (by decide) ?_ | refine callY_new (c1) rfl ?_ | refine hE _ _ ret_ne ?_ | refine hE _ _ exit_ne ?_) <;> try simp (disch := first | omega | decide +kernel) only [el_ints, el_intss, el_steps, wrap_of, Int.toNat_natCast, toNat_pred, Int.toNat_zero, Nat.sub_zero, List.drop_zero, ← List.map_take, ← List.map_drop, go_sem, Nat.reduceEqDiff, Nat.reduceLT, Nat.reduceAdd, Nat.reduceMul, Nat.reduceSub, ↓reduceIte, reduceCtorEq, Nat.reduceLeDiff, Nat.reduceSubDiff, Nat.reduceBEq]) | (refine hN _ ?_ ?_ (Wk.auto (by simp [extraK, lk, killL, St.kill, wipeO, wipeS, AV.has, AV.hasL, AO.wipe, List.map_set, updSt, insL, dropS, ins]) (by simp [extraK, lk, killL, St.kill, wipeO, wipeS, AV.has, AV.hasL, AO.wipe, List.map_set, updSt, insL, dropS, ins]))) | (with_reducible refine And.intro ?_ ?_) | (with_reducible omega) | (exact ok_ints) | (exact cells_ints) | (exact no_mem) | (with_reducible exact plain_ints) | (refine le_maxLen ?_; omega) | (refine List.forall_mem_cons.2 ⟨?_, ?_⟩) | (simp only [go_sem, List.length_cons, List.length_nil, Nat.reduceAdd, Nat.reduceLT, Nat.zero_lt_succ, and_self, List.mem_cons, List.not_mem_nil, or_false, forall_eq]; done)))
    rw [show List.replicate cs.length (D.int .i64 0) = (axF cs.length steps []).map (D.int .i64) by simp [axF]]
    refine Ok.loopN [52, 51, 50, 49, 48, 47, 46, 45, 44, 43, 42, 41, 40, 39, 38, 37, 36, 35, 34, 33, 32, 31, 30, 29, 28, 27, 26, 25, 24, 23, 22, 21, 20, 19, 18, 17, 16, 15, 14, 13, 12, 11, 10, 9, 8, 3, 2, 0] (fun i _ => [(8, .d (.int .i64 (i : Nat))), (6, .sl 17)]) (fun _ (cur : List Int) => [(17, .arr 3 1 (List.map (D.int .i64) cur))]) steps.length
      (fun i cur => cur = axF cs.length steps (takeN steps i)) (axF cs.length steps []) rfl (Wk.auto (by simp [extraK, lk, killL, St.kill, wipeO, wipeS, AV.has, AV.hasL, AO.wipe, List.map_set, updSt, insL, dropS, ins]) (by simp [extraK, lk, killL, St.kill, wipeO, wipeS, AV.has, AV.hasL, AO.wipe, List.map_set, updSt, insL, dropS, ins])) ?_
    rintro R i cur hN hE hi hcu
    have hcl2 := axF_len cs.length steps (takeN steps i)
    rw [← hcu] at hcl2
    by_cases hlt : i < steps.length
    · have hbi := hbd (takeN steps i) (fun x hx => by
        unfold takeN at hx
        obtain ⟨q, hq, rfl⟩ := List.mem_map.1 hx
        have := List.mem_range.1 (List.mem_filter.1 hq).1
        omega)
      have hln := takeN_len steps i
      rw [← hcu] at hbi
      have hS := axF_take cs.length steps i
      rw [← hcu] at hS
      have hel := onA_get steps i hlt
      have hgl := ndG_len steps steps.length
      have hax := hax i hlt
      simp only [axS, Int.toNat_natCast] at hS
      generalize hsd : steps.getD i Step.z = s at *
      have hbr := hbi s.r.toNat
      have c2 := l8Axiom_ok s
      cases hc : onA steps i with
      | true =>
        rw [hc] at hel
        rw [hc, if_pos rfl] at hS
        by_cases hs : s.l < 0
        · have hax := hax hs
          rw [decide_eq_true hs] at c2
          rw [if_pos hs] at hS
          simp (disch := first | omega | decide +kernel) only [hel, hsd, el_ints, el_intss, el_steps, wrap_of, Int.toNat_natCast, toNat_pred, Int.toNat_zero, Nat.sub_zero, List.drop_zero, ← List.map_take, ← List.map_drop, go_sem, Nat.reduceEqDiff, Nat.reduceLT, Nat.reduceAdd, Nat.reduceMul, Nat.reduceSub, ↓reduceIte, reduceCtorEq, Nat.reduceLeDiff, Nat.reduceSubDiff, Nat.reduceBEq]
          (repeat' (first | (refine gsel_split (fun h => ?_) (fun h => ?_) <;> (have h' := h) <;> (try simp only [decide_eq_true_eq, decide_eq_false_iff_not, Bool.not_eq_true', Bool.not_eq_false', bne_iff_ne, ne_eq, beq_iff_eq, bne_eq_false_iff_eq, beq_eq_false_iff_ne, Int.ofNat_lt, Int.ofNat_le, Int.not_lt, Int.not_le, Decidable.not_not, Bool.and_eq_true, Bool.or_eq_true, Bool.or_eq_false_iff, gt_iff_lt, ge_iff_le] at h') <;> simp (disch := first | omega | decide +kernel) only [h, el_ints, el_intss, el_steps, wrap_of, Int.toNat_natCast, toNat_pred, Int.toNat_zero, Nat.sub_zero, List.drop_zero, ← List.map_take, ← List.map_drop, hel, hsd, D.step, D.ints, go_sem, Nat.reduceEqDiff, Nat.reduceLT, Nat.reduceAdd, Nat.reduceMul, Nat.reduceSub, ↓reduceIte, reduceCtorEq, Nat.reduceLeDiff, Nat.reduceSubDiff, Nat.reduceBEq] <;> clear h) | ((first | refine callX_new (c2) rfl (by decide) ?_ | refine callY_new (c2) rfl ?_ | refine hE _ _ ret_ne ?_ | refine hE _ _ exit_ne ?_) <;> try simp (disch := first | omega | decide +kernel) only [el_ints, el_intss, el_steps, wrap_of, Int.toNat_natCast, toNat_pred, Int.toNat_zero, Nat.sub_zero, List.drop_zero, ← List.map_take, ← List.map_drop, hel, hsd, D.step, D.ints, go_sem, Nat.reduceEqDiff, Nat.reduceLT, Nat.reduceAdd, Nat.reduceMul, Nat.reduceSub, ↓reduceIte, reduceCtorEq, Nat.reduceLeDiff, Nat.reduceSubDiff, Nat.reduceBEq]) | (refine hN _ ?_ ?_ (Wk.auto (by simp [extraK, lk, killL, St.kill, wipeO, wipeS, AV.has, AV.hasL, AO.wipe, List.map_set, updSt, insL, dropS, ins]) (by simp [extraK, lk, killL, St.kill, wipeO, wipeS, AV.has, AV.hasL, AO.wipe, List.map_set, updSt, insL, dropS, ins]))) | (with_reducible refine And.intro ?_ ?_) | (with_reducible omega) | (exact ok_ints) | (exact cells_ints) | (exact no_mem) | (with_reducible exact plain_ints) | (refine le_maxLen ?_; omega) | (refine List.forall_mem_cons.2 ⟨?_, ?_⟩) | (simp only [go_sem, List.length_cons, List.length_nil, Nat.reduceAdd, Nat.reduceLT, Nat.zero_lt_succ, and_self, List.mem_cons, List.not_mem_nil, or_false, forall_eq]; done)))
          all_goals (first | (refine hN _ _ hlt hS.symm (Wk.auto (by simp [extraK, lk, killL, St.kill, wipeO, wipeS, AV.has, AV.hasL, AO.wipe, List.map_set, updSt, insL, dropS, ins, incI]) (by simp [extraK, lk, killL, St.kill, wipeO, wipeS, AV.has, AV.hasL, AO.wipe, List.map_set, updSt, insL, dropS, ins, incI])); done) | trace_state)
        · rw [decide_eq_false hs] at c2
          rw [if_neg hs] at hS
          simp (disch := first | omega | decide +kernel) only [hel, hsd, el_ints, el_intss, el_steps, wrap_of, Int.toNat_natCast, toNat_pred, Int.toNat_zero, Nat.sub_zero, List.drop_zero, ← List.map_take, ← List.map_drop, go_sem, Nat.reduceEqDiff, Nat.reduceLT, Nat.reduceAdd, Nat.reduceMul, Nat.reduceSub, ↓reduceIte, reduceCtorEq, Nat.reduceLeDiff, Nat.reduceSubDiff, Nat.reduceBEq]
          (repeat' (first | (refine gsel_split (fun h => ?_) (fun h => ?_) <;> (have h' := h) <;> (try simp only [decide_eq_true_eq, decide_eq_false_iff_not, Bool.not_eq_true', Bool.not_eq_false', bne_iff_ne, ne_eq, beq_iff_eq, bne_eq_false_iff_eq, beq_eq_false_iff_ne, Int.ofNat_lt, Int.ofNat_le, Int.not_lt, Int.not_le, Decidable.not_not, Bool.and_eq_true, Bool.or_eq_true, Bool.or_eq_false_iff, gt_iff_lt, ge_iff_le] at h') <;> simp (disch := first | omega | decide +kernel) only [h, el_ints, el_intss, el_steps, wrap_of, Int.toNat_natCast, toNat_pred, Int.toNat_zero, Nat.sub_zero, List.drop_zero, ← List.map_take, ← List.map_drop, hel, hsd, D.step, D.ints, go_sem, Nat.reduceEqDiff, Nat.reduceLT, Nat.reduceAdd, Nat.reduceMul, Nat.reduceSub, ↓reduceIte, reduceCtorEq, Nat.reduceLeDiff, Nat.reduceSubDiff, Nat.reduceBEq] <;> clear h) | ((first | refine callX_new (c2) rfl (by decide) ?_ | refine callY_new (c2) rfl ?_ | refine hE _ _ ret_ne ?_ | refine hE _ _ exit_ne ?_) <;> try simp (disch := first | omega | decide +kernel) only [el_ints, el_intss, el_steps, wrap_of, Int.toNat_natCast, toNat_pred, Int.toNat_zero, Nat.sub_zero, List.drop_zero, ← List.map_take, ← List.map_drop, hel, hsd, D.step, D.ints, go_sem, Nat.reduceEqDiff, Nat.reduceLT, Nat.reduceAdd, Nat.reduceMul, Nat.reduceSub, ↓reduceIte, reduceCtorEq, Nat.reduceLeDiff, Nat.reduceSubDiff, Nat.reduceBEq]) | (refine hN _ ?_ ?_ (Wk.auto (by simp [extraK, lk, killL, St.kill, wipeO, wipeS, AV.has, AV.hasL, AO.wipe, List.map_set, updSt, insL, dropS, ins]) (by simp [extraK, lk, killL, St.kill, wipeO, wipeS, AV.has, AV.hasL, AO.wipe, List.map_set, updSt, insL, dropS, ins]))) | (with_reducible refine And.intro ?_ ?_) | (with_reducible omega) | (exact ok_ints) | (exact cells_ints) | (exact no_mem) | (with_reducible exact plain_ints) | (refine le_maxLen ?_; omega) | (refine List.forall_mem_cons.2 ⟨?_, ?_⟩) | (simp only [go_sem, List.length_cons, List.length_nil, Nat.reduceAdd, Nat.reduceLT, Nat.zero_lt_succ, and_self, List.mem_cons, List.not_mem_nil, or_false, forall_eq]; done)))
          all_goals (first | (refine hN _ _ hlt hS.symm (Wk.auto (by simp [extraK, lk, killL, St.kill, wipeO, wipeS, AV.has, AV.hasL, AO.wipe, List.map_set, updSt, insL, dropS, ins, ]) (by simp [extraK, lk, killL, St.kill, wipeO, wipeS, AV.has, AV.hasL, AO.wipe, List.map_set, updSt, insL, dropS, ins, ])); done) | trace_state)
      | false =>
        rw [hc] at hel
        rw [hc, if_neg (by decide)] at hS
        simp (disch := first | omega | decide +kernel) only [hel, hsd, el_ints, el_intss, el_steps, wrap_of, Int.toNat_natCast, toNat_pred, Int.toNat_zero, Nat.sub_zero, List.drop_zero, ← List.map_take, ← List.map_drop, go_sem, Nat.reduceEqDiff, Nat.reduceLT, Nat.reduceAdd, Nat.reduceMul, Nat.reduceSub, ↓reduceIte, reduceCtorEq, Nat.reduceLeDiff, Nat.reduceSubDiff, Nat.reduceBEq]
        (repeat' (first | (refine gsel_split (fun h => ?_) (fun h => ?_) <;> (have h' := h) <;> (try simp only [decide_eq_true_eq, decide_eq_false_iff_not, Bool.not_eq_true', Bool.not_eq_false', bne_iff_ne, ne_eq, beq_iff_eq, bne_eq_false_iff_eq, beq_eq_false_iff_ne, Int.ofNat_lt, Int.ofNat_le, Int.not_lt, Int.not_le, Decidable.not_not, Bool.and_eq_true, Bool.or_eq_true, Bool.or_eq_false_iff, gt_iff_lt, ge_iff_le] at h') <;> simp (disch := first | omega | decide +kernel) only [h, el_ints, el_intss, el_steps, wrap_of, Int.toNat_natCast, toNat_pred, Int.toNat_zero, Nat.sub_zero, List.drop_zero, ← List.map_take, ← List.map_drop, hel, hsd, D.step, D.ints, go_sem, Nat.reduceEqDiff, Nat.reduceLT, Nat.reduceAdd, Nat.reduceMul, Nat.reduceSub, ↓reduceIte, reduceCtorEq, Nat.reduceLeDiff, Nat.reduceSubDiff, Nat.reduceBEq] <;> clear h) | ((first | refine callX_new (c2) rfl (by decide) ?_ | refine callY_new (c2) rfl ?_ | refine hE _ _ ret_ne ?_ | refine hE _ _ exit_ne ?_) <;> try simp (disch := first | omega | decide +kernel) only [el_ints, el_intss, el_steps, wrap_of, Int.toNat_natCast, toNat_pred, Int.toNat_zero, Nat.sub_zero, List.drop_zero, ← List.map_take, ← List.map_drop, hel, hsd, D.step, D.ints, go_sem, Nat.reduceEqDiff, Nat.reduceLT, Nat.reduceAdd, Nat.reduceMul, Nat.reduceSub, ↓reduceIte, reduceCtorEq, Nat.reduceLeDiff, Nat.reduceSubDiff, Nat.reduceBEq]) | (refine hN _ ?_ ?_ (Wk.auto (by simp [extraK, lk, killL, St.kill, wipeO, wipeS, AV.has, AV.hasL, AO.wipe, List.map_set, updSt, insL, dropS, ins]) (by simp [extraK, lk, killL, St.kill, wipeO, wipeS, AV.has, AV.hasL, AO.wipe, List.map_set, updSt, insL, dropS, ins]))) | (with_reducible refine And.intro ?_ ?_) | (with_reducible omega) | (exact ok_ints) | (exact cells_ints) | (exact no_mem) | (with_reducible exact plain_ints) | (refine le_maxLen ?_; omega) | (refine List.forall_mem_cons.2 ⟨?_, ?_⟩) | (simp only [go_sem, List.length_cons, List.length_nil, Nat.reduceAdd, Nat.reduceLT, Nat.zero_lt_succ, and_self, List.mem_cons, List.not_mem_nil, or_false, forall_eq]; done)))
        all_goals (first | (refine hN _ _ hlt hS.symm (Wk.auto (by simp [extraK, lk, killL, St.kill, wipeO, wipeS, AV.has, AV.hasL, AO.wipe, List.map_set, updSt, insL, dropS, ins, ]) (by simp [extraK, lk, killL, St.kill, wipeO, wipeS, AV.has, AV.hasL, AO.wipe, List.map_set, updSt, insL, dropS, ins, ])); done) | trace_state)
    · obtain rfl : i = steps.length := by omega
      simp (disch := first | omega | decide +kernel) only [el_ints, el_intss, el_steps, wrap_of, Int.toNat_natCast, toNat_pred, Int.toNat_zero, Nat.sub_zero, List.drop_zero, ← List.map_take, ← List.map_drop, go_sem, Nat.reduceEqDiff, Nat.reduceLT, Nat.reduceAdd, Nat.reduceMul, Nat.reduceSub, ↓reduceIte, reduceCtorEq, Nat.reduceLeDiff, Nat.reduceSubDiff, Nat.reduceBEq]
      (repeat' (first | (refine gsel_split (fun h => ?_) (fun h => ?_) <;> (have h' := h) <;> (try simp only [decide_eq_true_eq, decide_eq_false_iff_not, Bool.not_eq_true', Bool.not_eq_false', bne_iff_ne, ne_eq, beq_iff_eq, bne_eq_false_iff_eq, beq_eq_false_iff_ne, Int.ofNat_lt, Int.ofNat_le, Int.not_lt, Int.not_le, Decidable.not_not, Bool.and_eq_true, Bool.or_eq_true, Bool.or_eq_false_iff, gt_iff_lt, ge_iff_le] at h') <;> simp (disch := first | omega | decide +kernel) only [h, el_ints, el_intss, el_steps, wrap_of, Int.toNat_natCast, toNat_pred, Int.toNat_zero, Nat.sub_zero, List.drop_zero, ← List.map_take, ← List.map_drop, go_sem, Nat.reduceEqDiff, Nat.reduceLT, Nat.reduceAdd, Nat.reduceMul, Nat.reduceSub, ↓reduceIte, reduceCtorEq, Nat.reduceLeDiff, Nat.reduceSubDiff, Nat.reduceBEq] <;> clear h) | ((first | refine hE _ _ ret_ne ?_ | refine hE _ _ exit_ne ?_) <;> try simp (disch := first | omega | decide +kernel) only [el_ints, el_intss, el_steps, wrap_of, Int.toNat_natCast, toNat_pred, Int.toNat_zero, Nat.sub_zero, List.drop_zero, ← List.map_take, ← List.map_drop, go_sem, Nat.reduceEqDiff, Nat.reduceLT, Nat.reduceAdd, Nat.reduceMul, Nat.reduceSub, ↓reduceIte, reduceCtorEq, Nat.reduceLeDiff, Nat.reduceSubDiff, Nat.reduceBEq]) | (refine hN _ ?_ ?_ (Wk.auto (by simp [extraK, lk, killL, St.kill, wipeO, wipeS, AV.has, AV.hasL, AO.wipe, List.map_set, updSt, insL, dropS, ins]) (by simp [extraK, lk, killL, St.kill, wipeO, wipeS, AV.has, AV.hasL, AO.wipe, List.map_set, updSt, insL, dropS, ins]))) | (with_reducible refine And.intro ?_ ?_) | (with_reducible omega) | (exact ok_ints) | (exact cells_ints) | (exact no_mem) | (with_reducible exact plain_ints) | (refine le_maxLen ?_; omega) | (refine List.forall_mem_cons.2 ⟨?_, ?_⟩) | (simp only [go_sem, List.length_cons, List.length_nil, Nat.reduceAdd, Nat.reduceLT, Nat.zero_lt_succ, and_self, List.mem_cons, List.not_mem_nil, or_false, forall_eq]; done)))
      rw [hcu]
      show retQ _ _ _ _ [(0, .arr _ 1 ((axF cs.length steps (takeN steps steps.length)).map (.int .i64)))] _ _
      (first | exact ret_sld _ rfl rfl rfl plain_ints rfl | exact ret_sld _ rfl rfl rfl no_mem rfl)
set_option maxHeartbeats 4000000 in
theorem law_AxiomCounts : ∀ xs, AllR [isSt [isI64, isSl (isSl isI64)], isSl (isSt [isSl isI64, isI64, isI64, isI64])] xs → Ctr Tryz.prog 4 xs false (.d (.bool true)) [] := by
  intro xs hx
  obtain ⟨x0, ys, rfl, h0, hx⟩ := allR_cons hx
  obtain ⟨x1, ys, rfl, h1, hx⟩ := allR_cons hx
  obtain rfl := allR_nil hx
  obtain ⟨v, cs, rfl, hcl, hcx⟩ := r_cnf h0
  obtain ⟨steps, rfl, hsl, hsx⟩ := r_steps h1
  have e1 := szS_szF szI_szF cs 1048576 (by omega)
  have s1 := szCnf_ok v cs 1048576 hcl hcx ⟨by omega, by omega⟩
  by_cases hz1 : szS szI cs 1048576 < 0
  · refine Ctr.of (n := 119) (rs := [.tmp 4]) Tryz.func4 rfl rfl Tryz.ntmps4 rfl rfl (by kernel_rfl) Tryz.checked.mixed ?_
    simp (disch := first | omega | decide +kernel) only [el_ints, el_intss, el_steps, wrap_of, Int.toNat_natCast, toNat_pred, Int.toNat_zero, Nat.sub_zero, List.drop_zero, ← List.map_take, ← List.map_drop, go_sem, Nat.reduceEqDiff, Nat.reduceLT, Nat.reduceAdd, Nat.reduceMul, Nat.reduceSub, ↓reduceIte, reduceCtorEq, Nat.reduceLeDiff, Nat.reduceSubDiff, Nat.reduceBEq]
    (repeat' (first | (refine gsel_split (fun h => ?_) (fun h => ?_) <;> (have h' := h) <;> (try simp only [decide_eq_true_eq, decide_eq_false_iff_not, Bool.not_eq_true', Bool.not_eq_false', bne_iff_ne, ne_eq, beq_iff_eq, bne_eq_false_iff_eq, beq_eq_false_iff_ne, Int.ofNat_lt, Int.ofNat_le, Int.not_lt, Int.not_le, Decidable.not_not, Bool.and_eq_true, Bool.or_eq_true, Bool.or_eq_false_iff, gt_iff_lt, ge_iff_le] at h') <;> simp (disch := first | omega | decide +kernel) only [h, el_ints, el_intss, el_steps, wrap_of, Int.toNat_natCast, toNat_pred, Int.toNat_zero, Nat.sub_zero, List.drop_zero, ← List.map_take, ← List.map_drop, go_sem, Nat.reduceEqDiff, Nat.reduceLT, Nat.reduceAdd, Nat.reduceMul, Nat.reduceSub, ↓reduceIte, reduceCtorEq, Nat.reduceLeDiff, Nat.reduceSubDiff, Nat.reduceBEq] <;> clear h) | ((first | refine callX_new (s1) rfl (by decide) ?_ | refine callY_new (s1) rfl ?_ | refine hE _ _ ret_ne ?_ | refine hE _ _ exit_ne ?_) <;> try simp (disch := first | omega | decide +kernel) only [el_ints, el_intss, el_steps, wrap_of, Int.toNat_natCast, toNat_pred, Int.toNat_zero, Nat.sub_zero, List.drop_zero, ← List.map_take, ← List.map_drop, go_sem, Nat.reduceEqDiff, Nat.reduceLT, Nat.reduceAdd, Nat.reduceMul, Nat.reduceSub, ↓reduceIte, reduceCtorEq, Nat.reduceLeDiff, Nat.reduceSubDiff, Nat.reduceBEq]) | (refine hN _ ?_ ?_ (Wk.auto (by simp [extraK, lk, killL, St.kill, wipeO, wipeS, AV.has, AV.hasL, AO.wipe, List.map_set, updSt, insL, dropS, ins]) (by simp [extraK, lk, killL, St.kill, wipeO, wipeS, AV.has, AV.hasL, AO.wipe, List.map_set, updSt, insL, dropS, ins]))) | (with_reducible refine And.intro ?_ ?_) | (with_reducible omega) | (exact ok_ints) | (exact cells_ints) | (exact no_mem) | (with_reducible exact plain_ints) | (refine le_maxLen ?_; omega) | (refine List.forall_mem_cons.2 ⟨?_, ?_⟩) | (simp only [go_sem, List.length_cons, List.length_nil, Nat.reduceAdd, Nat.reduceLT, Nat.zero_lt_succ, and_self, List.mem_cons, List.not_mem_nil, or_false, forall_eq]; done)))
  have s2 := szRS_ok steps (szS szI cs 1048576) hsl hsx ⟨by omega, by omega⟩
  by_cases hz2 : szS stepF steps (szS szI cs 1048576) < 0
  · refine Ctr.of (n := 119) (rs := [.tmp 4]) Tryz.func4 rfl rfl Tryz.ntmps4 rfl rfl (by kernel_rfl) Tryz.checked.mixed ?_
    simp (disch := first | omega | decide +kernel) only [el_ints, el_intss, el_steps, wrap_of, Int.toNat_natCast, toNat_pred, Int.toNat_zero, Nat.sub_zero, List.drop_zero, ← List.map_take, ← List.map_drop, go_sem, Nat.reduceEqDiff, Nat.reduceLT, Nat.reduceAdd, Nat.reduceMul, Nat.reduceSub, ↓reduceIte, reduceCtorEq, Nat.reduceLeDiff, Nat.reduceSubDiff, Nat.reduceBEq]
    (repeat' (first | (refine gsel_split (fun h => ?_) (fun h => ?_) <;> (have h' := h) <;> (try simp only [decide_eq_true_eq, decide_eq_false_iff_not, Bool.not_eq_true', Bool.not_eq_false', bne_iff_ne, ne_eq, beq_iff_eq, bne_eq_false_iff_eq, beq_eq_false_iff_ne, Int.ofNat_lt, Int.ofNat_le, Int.not_lt, Int.not_le, Decidable.not_not, Bool.and_eq_true, Bool.or_eq_true, Bool.or_eq_false_iff, gt_iff_lt, ge_iff_le] at h') <;> simp (disch := first | omega | decide +kernel) only [h, el_ints, el_intss, el_steps, wrap_of, Int.toNat_natCast, toNat_pred, Int.toNat_zero, Nat.sub_zero, List.drop_zero, ← List.map_take, ← List.map_drop, go_sem, Nat.reduceEqDiff, Nat.reduceLT, Nat.reduceAdd, Nat.reduceMul, Nat.reduceSub, ↓reduceIte, reduceCtorEq, Nat.reduceLeDiff, Nat.reduceSubDiff, Nat.reduceBEq] <;> clear h) | ((first | refine callX_new (s1) rfl (by decide) ?_ | refine callY_new (s1) rfl ?_ | refine callX_new (s2) rfl (by decide) ?_ | refine callY_new (s2) rfl ?_ | refine hE _ _ ret_ne ?_ | refine hE _ _ exit_ne ?_) <;> try simp (disch := first | omega | decide +kernel) only [el_ints, el_intss, el_steps, wrap_of, Int.toNat_natCast, toNat_pred, Int.toNat_zero, Nat.sub_zero, List.drop_zero, ← List.map_take, ← List.map_drop, go_sem, Nat.reduceEqDiff, Nat.reduceLT, Nat.reduceAdd, Nat.reduceMul, Nat.reduceSub, ↓reduceIte, reduceCtorEq, Nat.reduceLeDiff, Nat.reduceSubDiff, Nat.reduceBEq]) | (refine hN _ ?_ ?_ (Wk.auto (by simp [extraK, lk, killL, St.kill, wipeO, wipeS, AV.has, AV.hasL, AO.wipe, List.map_set, updSt, insL, dropS, ins]) (by simp [extraK, lk, killL, St.kill, wipeO, wipeS, AV.has, AV.hasL, AO.wipe, List.map_set, updSt, insL, dropS, ins]))) | (with_reducible refine And.intro ?_ ?_) | (with_reducible omega) | (exact ok_ints) | (exact cells_ints) | (exact no_mem) | (with_reducible exact plain_ints) | (refine le_maxLen ?_; omega) | (refine List.forall_mem_cons.2 ⟨?_, ?_⟩) | (simp only [go_sem, List.length_cons, List.length_nil, Nat.reduceAdd, Nat.reduceLT, Nat.zero_lt_succ, and_self, List.mem_cons, List.not_mem_nil, or_false, forall_eq]; done)))
  obtain ⟨z, hcs, hst⟩ := sz_both (cs := cs) (steps := steps) (by omega) (by omega)
  have t1 := toCnf_ok v cs z.hcl' hcs
  have t2 := Ctr.data1 (toResStepS_ok steps (Nat.le_trans z.hl (by omega)) hst)
  have q1 := eqCnf_ok v v cs cs z.hcl' hcs
  have q2 := eqResStepS_ok steps steps (Nat.le_trans z.hl (by omega)) hst
  have d1 := toCnfd_ok v cs z.hcl' hcs
  have d2 := toResStepSd_ok steps (Nat.le_trans z.hl (by omega)) hst
  have hb := lens_small z
  have c1 := specAxiomCounts_ok v cs steps z
  have c2 := (axiomCounts_ok v cs steps z).deep (by rw [bare_ints]; trivial)
  have hR : (axR v cs steps).length ≤ 4294967296 := axR_len z
  have m1 := fun τ => markCnf_ok τ v cs 1 (by omega) (by omega) z.hcl'
  have m2 := fun τ => markResStepS_ok τ steps (1 + (lenSS cs : Nat)) (by omega) (by omega) (Nat.le_trans z.hl (by omega))
  generalize axR v cs steps = R at *
  have q0 := eqIntS_ok R R hR
  have m3 := fun τ => markIntS_ok τ R 1 (by omega) (by omega)
  have hh := heldIntS_ok R.length 1 (by omega) (by omega)
  clear e1 hz1 hz2 h0 h1
  refine Ctr.of (n := 119) (rs := [.tmp 4]) Tryz.func4 rfl rfl Tryz.ntmps4 rfl rfl (by kernel_rfl) Tryz.checked.mixed ?_
  simp (disch := first | omega | decide +kernel) only [el_ints, el_intss, el_steps, wrap_of, Int.toNat_natCast, toNat_pred, Int.toNat_zero, Nat.sub_zero, List.drop_zero, ← List.map_take, ← List.map_drop, go_sem, Nat.reduceEqDiff, Nat.reduceLT, Nat.reduceAdd, Nat.reduceMul, Nat.reduceSub, ↓reduceIte, reduceCtorEq, Nat.reduceLeDiff, Nat.reduceSubDiff, Nat.reduceBEq]
  (repeat' (first | (refine gsel_split (fun h => ?_) (fun h => ?_) <;> (have h' := h) <;> (try simp only [decide_eq_true_eq, decide_eq_false_iff_not, Bool.not_eq_true', Bool.not_eq_false', bne_iff_ne, ne_eq, beq_iff_eq, bne_eq_false_iff_eq, beq_eq_false_iff_ne, Int.ofNat_lt, Int.ofNat_le, Int.not_lt, Int.not_le, Decidable.not_not, Bool.and_eq_true, Bool.or_eq_true, Bool.or_eq_false_iff, gt_iff_lt, ge_iff_le] at h') <;> simp (disch := first | omega | decide +kernel) only [h, el_ints, el_intss, el_steps, wrap_of, Int.toNat_natCast, toNat_pred, Int.toNat_zero, Nat.sub_zero, List.drop_zero, ← List.map_take, ← List.map_drop, go_sem, Nat.reduceEqDiff, Nat.reduceLT, Nat.reduceAdd, Nat.reduceMul, Nat.reduceSub, ↓reduceIte, reduceCtorEq, Nat.reduceLeDiff, Nat.reduceSubDiff, Nat.reduceBEq] <;> clear h) | ((first | refine callX_new (s1) rfl (by decide) ?_ | refine callY_new (s1) rfl ?_ | refine callX_new (s2) rfl (by decide) ?_ | refine callY_new (s2) rfl ?_ | refine callX_new (d1) rfl (by decide) ?_ | refine callY_new (d1) rfl ?_ | refine callX_new (d2) rfl (by decide) ?_ | refine callY_new (d2) rfl ?_ | refine callX_new (c1) rfl (by decide) ?_ | refine callY_new (c1) rfl ?_ | refine callX_new (c2) rfl (by decide) ?_ | refine callY_new (c2) rfl ?_ | refine callX_new (q0) rfl (by decide) ?_ | refine callY_new (q0) rfl ?_ | refine callX_new (q1) rfl (by decide) ?_ | refine callY_new (q1) rfl ?_ | refine callX_new (q2) rfl (by decide) ?_ | refine callY_new (q2) rfl ?_ | refine callX_keep _ (m1 _) ⟨.inl rfl, .inl rfl, trivial⟩ rfl (by simp [dstB]) ?_ | refine callX_keep _ (m2 _) ⟨.inl rfl, .inl rfl, trivial⟩ rfl (by simp [dstB]) ?_ | refine callX_keep _ (m3 _) ⟨.inl rfl, .inl rfl, trivial⟩ rfl (by simp [dstB]) ?_ | refine callX_new (hh) rfl (by decide) ?_ | refine callY_new (hh) rfl ?_ | refine callX_shared (t1) rfl (by decide) ?_ | refine callY_shared (t1) rfl ?_ | refine callX_shared (t2) rfl (by decide) ?_ | refine callY_shared (t2) rfl ?_ | refine hE _ _ ret_ne ?_ | refine hE _ _ exit_ne ?_) <;> try simp (disch := first | omega | decide +kernel) only [el_ints, el_intss, el_steps, wrap_of, Int.toNat_natCast, toNat_pred, Int.toNat_zero, Nat.sub_zero, List.drop_zero, ← List.map_take, ← List.map_drop, go_sem, Nat.reduceEqDiff, Nat.reduceLT, Nat.reduceAdd, Nat.reduceMul, Nat.reduceSub, ↓reduceIte, reduceCtorEq, Nat.reduceLeDiff, Nat.reduceSubDiff, Nat.reduceBEq]) | (refine hN _ ?_ ?_ (Wk.auto (by simp [extraK, lk, killL, St.kill, wipeO, wipeS, AV.has, AV.hasL, AO.wipe, List.map_set, updSt, insL, dropS, ins]) (by simp [extraK, lk, killL, St.kill, wipeO, wipeS, AV.has, AV.hasL, AO.wipe, List.map_set, updSt, insL, dropS, ins]))) | (with_reducible refine And.intro ?_ ?_) | (with_reducible omega) | (exact ok_ints) | (exact cells_ints) | (exact no_mem) | (with_reducible exact plain_ints) | (refine le_maxLen ?_; omega) | (refine List.forall_mem_cons.2 ⟨?_, ?_⟩) | (simp only [go_sem, List.length_cons, List.length_nil, Nat.reduceAdd, Nat.reduceLT, Nat.zero_lt_succ, and_self, List.mem_cons, List.not_mem_nil, or_false, forall_eq]; done)))
  all_goals (first | exact absurd trivial h' | omega | trace_state)
end Abs.Y
