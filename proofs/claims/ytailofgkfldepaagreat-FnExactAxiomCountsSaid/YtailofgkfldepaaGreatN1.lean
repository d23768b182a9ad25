/- What functions of this program compute, as contracts over plain data, with what the proofs need of them. No condition. -/
import Derived.Test.YtailofgkfldepaaGreatQ12
import Derived.Test.YtailofgkfldepaaGreatW6
import Derived.Test.YtailofgkfldepaaGreatW7
import Derived.Test.YtailofgkfldepaaGreatAbsShelf
import Derived.Test.YtailofgkfldepaaGreatAbsBox
import Derived.Test.YtailofgkfldepaaGreatAbsBack
set_option linter.all false
namespace Abs.Y
open Go Go.Proofs Abs Go.Sort Go.Shelf Go.Lib Go.RowKit
set_option maxRecDepth 100000

/-! ### slices.Backward at steps -/
theorem cells_steps4 {xs : List Step} : ∀ y ∈ List.map D.step xs, y.cells.length = 4 := fun y hy => by
  obtain ⟨x, _, rfl⟩ := List.mem_map.1 hy; rfl
theorem iter_steps (steps : List Step) (hl : steps.length ≤ 4294967296) : IterAt Tryz.prog 69 (steps.map D.step) := by
  intro l pv J W hJ h0
  obtain ⟨S, hR, _⟩ := hJ 0 W h0
  obtain ⟨b, o, sv, rfl, hc, h⟩ := rd_ptrSlice (k := 4) cells_steps4 hR
  rcases h with ⟨he, a, cap, rfl⟩ | ⟨hne, _⟩
  · obtain rfl : steps = [] := by cases steps with
      | nil => rfl
      | cons a r => cases he
    exact Tryz.backS_none l b o a cap (J 0) W hc h0
  · refine Tryz.backS_in l b o _ (by simpa using hl) J (fun k W' hk => ?_) W h0
    obtain ⟨S', hR', hY⟩ := hJ k W' hk
    obtain ⟨b', o', sv', e, hc', h'⟩ := rd_ptrSlice (k := 4) cells_steps4 hR'
    cases e
    rcases h' with ⟨he, _⟩ | ⟨_, b2, off, cap, vs, rfl, hcs⟩
    · exact absurd he hne
    · refine ⟨b2, off, cap, fun i => vs (i * 4 + 0), fun i => vs (i * 4 + 1), fun i => vs (i * 4 + 2), fun i => vs (i * 4 + 3), hc', fun i hi => ⟨(hcs i 0 hi (by omega)).1, (hcs i 1 hi (by omega)).1, (hcs i 2 hi (by omega)).1, (hcs i 3 hi (by omega)).1⟩, fun hlt => hY hlt _ ?_⟩
      have hq : (List.map D.step steps).length - 1 - k < (List.map D.step steps).length := by omega
      generalize (List.map D.step steps).length - 1 - k = q at *
      have h0 := (hcs q 0 hq (by omega)).2
      have h1 := (hcs q 1 hq (by omega)).2
      have h2 := (hcs q 2 hq (by omega)).2
      have h3 := (hcs q 3 hq (by omega)).2
      rw [el_steps (by simpa using hq)] at h0 h1 h2 h3 ⊢
      exact .agg (vs := [_, _, _, _]) rfl fun i hi => by
        match i, hi with
        | 0, _ => exact h0
        | 1, _ => exact h1
        | 2, _ => exact h2
        | 3, _ => exact h3
        | n + 4, hi => exact absurd hi (by simp)
theorem ret_fn {P t f x st} (h : lk t st.s = some (.fn f [.d x])) : retQ P [.tmp t] true (.fn f [.d x]) [] .ret st := by
  refine .inl ?_
  simp only [retO, resV, h]; exact ⟨trivial, ⟨fun j => j, rfl, by simp, by simp⟩, .inl trivial⟩
theorem backward_ok (xs : List D) : Ctr Tryz.prog 59 [.slice xs] true (.fn (.func 69) [.d (.ptr (.slice xs))]) [] := by
  refine Ctr.ofK (n := 4) (rs := [.tmp 2]) Tryz.func59 rfl rfl Tryz.ntmps59 rfl rfl (by kernel_rfl) Tryz.checked.mixed ?_; refine Awp.cut ?_
  simp (disch := first | omega | decide +kernel) only [el_ints, el_intss, el_steps, wrap_of, Int.toNat_natCast, toNat_pred, Int.toNat_zero, Nat.sub_zero, List.drop_zero, ← List.map_take, ← List.map_drop, go_sem, Nat.reduceEqDiff, Nat.reduceLT, Nat.reduceAdd, Nat.reduceMul, Nat.reduceSub, ↓reduceIte, reduceCtorEq, Nat.reduceLeDiff, Nat.reduceSubDiff, Nat.reduceBEq]
  refine ⟨_, Wk.bfz 1 (.slice xs) rfl rfl, ?_⟩
  simp (disch := first | omega | decide +kernel) only [bfzS, bfzO, AV.bfz, AV.bfzL, AO.bfz, el_ints, el_intss, el_steps, wrap_of, Int.toNat_natCast, toNat_pred, Int.toNat_zero, Nat.sub_zero, List.drop_zero, ← List.map_take, ← List.map_drop, go_sem, Nat.reduceEqDiff, Nat.reduceLT, Nat.reduceAdd, Nat.reduceMul, Nat.reduceSub, ↓reduceIte, reduceCtorEq, Nat.reduceLeDiff, Nat.reduceSubDiff, Nat.reduceBEq]
  exact ret_fn rfl

/-! ### slices.Reverse -/
theorem reverse_ok (xs : List Int) (hx : xs.length ≤ 4294967296) : CtrM Tryz.prog 61 [.sl 0] [(0, .arr 3 1 (xs.map (.int .i64)))] [0] false (.tup []) [(0, .arr 3 1 (xs.reverse.map (.int .i64)))] := by
  refine CtrM.inPlace ⟨_, Tryz.func61, by kernel_rfl, by kernel_rfl⟩ (by simp) hx fun S β w rv hl hr => ?_
  obtain rfl : rv = [] := by simpa using hl
  refine ⟨fun _ a cap => Any.slices_Reverse_int_empty Tryz.layR a cap w, fun g cap hH hg => ?_⟩
  refine (Any.slices_Reverse_int Tryz.layR g 0 cap xs w hH (by omega)).mono fun en w' ⟨he, n, hw⟩ => ⟨he, n, #[], ?_⟩
  rw [hw, sortWorld, grow_empty]
/-! ### Which steps are needed: the flags, from the end on -/
def markF (l : List Bool) (ps : List Int) : List Bool := ps.foldl (fun l k => l.set k.toNat true) l
/-- Is the step behind k rounds looked at? -/
def onN (steps : List Step) (l : List Bool) (q : Nat) : Bool := decide (q = steps.length - 1) || l.getD q false
def ndF (steps : List Step) : Nat → List Bool
  | 0 => List.replicate steps.length false
  | k + 1 => if onN steps (ndF steps k) (steps.length - 1 - k) then markF (ndF steps k) (premI (steps.getD (steps.length - 1 - k) Step.z)) else ndF steps k
/-- The steps looked at, the last first. -/
def ndL (steps : List Step) : Nat → List Int
  | 0 => []
  | k + 1 => if onN steps (ndF steps k) (steps.length - 1 - k) then ndL steps k ++ [((steps.length - 1 - k : Nat) : Int)] else ndL steps k
theorem markF_len (ps : List Int) : ∀ l : List Bool, (markF l ps).length = l.length := by
  induction ps with
  | nil => intro l; rfl
  | cons p r ih => intro l; simp only [markF, List.foldl_cons] at *; rw [ih]; simp
theorem ndF_len (steps : List Step) : ∀ k, (ndF steps k).length = steps.length
  | 0 => by simp [ndF]
  | k + 1 => by
    simp only [ndF]; split
    · rw [markF_len, ndF_len steps k]
    · exact ndF_len steps k
theorem ndL_len (steps : List Step) : ∀ k, (ndL steps k).length ≤ k
  | 0 => by simp [ndL]
  | k + 1 => by
    have := ndL_len steps k
    simp only [ndL]; split
    · simp; omega
    · omega
/-- A number that is no premise keeps its flag. -/
theorem markF_get (ps : List Int) (q : Nat) (h : ∀ p ∈ ps, p.toNat ≠ q) : ∀ l : List Bool, (markF l ps).getD q false = l.getD q false := by
  induction ps with
  | nil => intro l; rfl
  | cons p r ih =>
    intro l
    simp only [markF, List.foldl_cons] at *
    rw [ih fun x hx => h x (by simp [hx])]
    have := h p (by simp)
    simp only [List.getD_eq_getElem?_getD, List.getElem?_set]
    rw [if_neg this]
theorem premI_lt {steps : List Step} {q : Nat} (hf : FineS steps q) : ∀ p ∈ premI (steps.getD q Step.z), 0 ≤ p ∧ p < q := fun p hp => by
  obtain ⟨j, hj, rfl⟩ := List.getElem_of_mem hp
  have := premI_fine hf j hj
  generalize premI (steps.getD q Step.z) = l at *
  simpa [List.getD_eq_getElem?_getD, List.getElem?_eq_getElem hj] using this
/-- Behind its round a step's flag stays. -/
theorem ndF_stay (steps : List Step) (hf : ∀ k, k < steps.length → FineS steps k) (k : Nat) : ∀ m, k ≤ m → m ≤ steps.length → ∀ q, steps.length ≤ q + k + 1 → (ndF steps m).getD q false = (ndF steps k).getD q false := by
  intro m hkm
  induction hkm with
  | refl => intros; rfl
  | step h ih =>
    rename_i m
    intro hm q hq
    rw [← ih (by omega) q hq]
    simp only [ndF]
    split
    · refine markF_get _ _ (fun p hp => ?_) _
      have := premI_lt (hf (steps.length - 1 - m) (by omega)) p hp
      simp only [Nat.le_eq] at h
      omega
    · rfl
def onA (steps : List Step) (q : Nat) : Bool := onN steps (ndF steps steps.length) q
theorem onA_eq (steps : List Step) (hf : ∀ k, k < steps.length → FineS steps k) (k : Nat) (hk : k < steps.length) : onN steps (ndF steps k) (steps.length - 1 - k) = onA steps (steps.length - 1 - k) := by
  unfold onA onN
  rw [ndF_stay steps hf k steps.length (by omega) (Nat.le_refl _) _ (by omega)]
/-- The needed steps in order. -/
def needI (steps : List Step) : List Int := ((List.range steps.length).filter (onA steps)).map fun q : Nat => (q : Int)
theorem ndL_eq (steps : List Step) (hf : ∀ k, k < steps.length → FineS steps k) : ∀ k, k ≤ steps.length → (ndL steps k).reverse = (((List.range' (steps.length - k) k).filter (onA steps)).map fun q : Nat => (q : Int))
  | 0, _ => by simp [ndL]
  | k + 1, h => by
    have ih := ndL_eq steps hf k (by omega)
    have e : List.range' (steps.length - (k + 1)) (k + 1) = (steps.length - 1 - k) :: List.range' (steps.length - k) k := by
      rw [List.range'_succ, show steps.length - (k + 1) = steps.length - 1 - k by omega, show steps.length - 1 - k + 1 = steps.length - k by omega]
    rw [e]
    simp only [ndL, onA_eq steps hf k (by omega), List.filter_cons]
    split
    · rw [List.reverse_append, ih]; rfl
    · exact ih
theorem ndL_rev (steps : List Step) (hf : ∀ k, k < steps.length → FineS steps k) : (ndL steps steps.length).reverse = needI steps := by
  rw [ndL_eq steps hf _ (Nat.le_refl _), Nat.sub_self, ← List.range_eq_range']; rfl
theorem enters_run {P : Program} {f : FuncId} (h : Abs.Enters P f) (args : Array Value) (w : World) : (callFunc f args).run P w = .ok (.enter f args) w := by
  obtain ⟨fn, hf1, hf2, hf3⟩ := h
  simp only [callFunc, program, Sem.run_bind, Result.andThen_ok, Sem.run_pure, Sem.run, hf1, hf2, hf3]
  rfl
set_option maxHeartbeats 4000000 in
theorem neededSteps_ok (steps : List Step) (hl : steps.length ≤ 1048576) (hf : ∀ k, k < steps.length → FineS steps k) :
    Ctr Tryz.prog 43 [.slice (steps.map D.step)] false (.sl 0) [(0, .arr 3 1 ((needI steps).map (.int .i64)))] := by
  have c1 := backward_ok (steps.map D.step)
  refine Ctr.of (n := 46) (rs := [.tmp 2]) Tryz.func43 rfl rfl Tryz.ntmps43 rfl rfl (by kernel_rfl) Tryz.checked.mixed ?_
  simp (disch := first | omega | decide +kernel) only [el_ints, el_intss, el_steps, wrap_of, Int.toNat_natCast, toNat_pred, Int.toNat_zero, Nat.sub_zero, List.drop_zero, ← List.map_take, ← List.map_drop, go_sem, Nat.reduceEqDiff, Nat.reduceLT, Nat.reduceAdd, Nat.reduceMul, Nat.reduceSub, ↓reduceIte, reduceCtorEq, Nat.reduceLeDiff, Nat.reduceSubDiff, Nat.reduceBEq]
  refine ⟨by omega, ?_⟩
  (repeat' (first | (refine gsel_split (fun h => ?_) (fun h => ?_) <;> (have h' := h) <;> (try simp only [decide_eq_true_eq, decide_eq_false_iff_not, Bool.not_eq_true', Bool.not_eq_false', bne_iff_ne, ne_eq, beq_iff_eq, bne_eq_false_iff_eq, beq_eq_false_iff_ne, Int.ofNat_lt, Int.ofNat_le, Int.not_lt, Int.not_le, Decidable.not_not, Bool.and_eq_true, Bool.or_eq_true, Bool.or_eq_false_iff, gt_iff_lt, ge_iff_le] at h') <;> simp (disch := first | omega | decide +kernel) only [h, el_ints, el_intss, el_steps, wrap_of, Int.toNat_natCast, toNat_pred, Int.toNat_zero, Nat.sub_zero, List.drop_zero, ← List.map_take, ← List.map_drop, go_sem, Nat.reduceEqDiff, Nat.reduceLT, Nat.reduceAdd, Nat.reduceMul, Nat.reduceSub, ↓reduceIte, reduceCtorEq, Nat.reduceLeDiff, Nat.reduceSubDiff, Nat.reduceBEq] <;> clear h) | ((first | refine callX_shared (c1) rfl (by decide) ?_ | refine callY_shared (c1) rfl ?_ | refine hE _ _ ret_ne ?_ | refine hE _ _ exit_ne ?_) <;> try simp (disch := first | omega | decide +kernel) only [el_ints, el_intss, el_steps, wrap_of, Int.toNat_natCast, toNat_pred, Int.toNat_zero, Nat.sub_zero, List.drop_zero, ← List.map_take, ← List.map_drop, go_sem, Nat.reduceEqDiff, Nat.reduceLT, Nat.reduceAdd, Nat.reduceMul, Nat.reduceSub, ↓reduceIte, reduceCtorEq, Nat.reduceLeDiff, Nat.reduceSubDiff, Nat.reduceBEq]) | (refine hN _ ?_ ?_ (Wk.auto (by simp [extraK, lk, killL, St.kill, wipeO, wipeS, AV.has, AV.hasL, AO.wipe, List.map_set, updSt, insL, dropS, ins]) (by simp [extraK, lk, killL, St.kill, wipeO, wipeS, AV.has, AV.hasL, AO.wipe, List.map_set, updSt, insL, dropS, ins]))) | (with_reducible refine And.intro ?_ ?_) | (with_reducible omega) | (exact ok_ints) | (exact cells_ints) | (exact no_mem) | (with_reducible exact plain_ints) | (refine le_maxLen ?_; omega) | (refine List.forall_mem_cons.2 ⟨?_, ?_⟩) | (simp only [go_sem, List.length_cons, List.length_nil, Nat.reduceAdd, Nat.reduceLT, Nat.zero_lt_succ, and_self, List.mem_cons, List.not_mem_nil, or_false, forall_eq]; done)))
  rw [show List.replicate steps.length (D.bool false) = (ndF steps 0).map .bool by simp [ndF]]
  refine Ok.rangeBack (es := steps.map D.step) (bf := 69) (enters_run ⟨_, Tryz.func69, by kernel_rfl, by kernel_rfl⟩) (iter_steps steps (by omega)) ⟨by decide, by decide⟩ (by kernel_rfl) [11, 4, 3, 2, 1]
    (fun k st => st = ⟨[(13, .fn (.func 69) [.d (.ptr (.slice (steps.map D.step)))]), (4, .p 4 0), (3, .p 3 0), (2, .sl 2), (1, .p 1 0)],
      [(31, .arr 3 1 ((ndL steps k).map (.int .i64))), (11, .arr 4 1 ((ndF steps k).map .bool)), (4, .box 39 [.sl 31]), (3, .box 59 [.sl 11]), (2, .arr 3 1 []), (1, .box 28 [.d (.slice (steps.map D.step))])]⟩)
    ⟨_, (Wk.nilObj 31 4 0 rfl rfl (by simp) (by decide) (e := 3) (k := 1) (by decide)).trans (Wk.auto (by simp [extraK, lk, killL, St.kill, wipeO, wipeS, AV.has, AV.hasL, AO.wipe, List.map_set, updSt, insL, dropS, ins, setL, ndL]) (by simp [extraK, lk, killL, St.kill, wipeO, wipeS, AV.has, AV.hasL, AO.wipe, List.map_set, updSt, insL, dropS, ins, setL, ndL])), rfl⟩ (fun k st h => by subst h; rfl) (fun k st hk h u => ?_) (fun st h => ?_)
  · subst h
    have hkn : k < steps.length := by simpa using hk
    have hfl := ndF_len steps k
    have hll := ndL_len steps k
    have hF1 : ndF steps (k + 1) = if onN steps (ndF steps k) (steps.length - 1 - k) then markF (ndF steps k) (premI (steps.getD (steps.length - 1 - k) Step.z)) else ndF steps k := rfl
    have hL1 : ndL steps (k + 1) = if onN steps (ndF steps k) (steps.length - 1 - k) then ndL steps k ++ [((steps.length - 1 - k : Nat) : Int)] else ndL steps k := rfl
    have hfi := fun j hj => premI_fine (hf (steps.length - 1 - k) (by omega)) j hj
    rw [hF1, hL1]
    clear hF1 hL1 hf
    simp only [List.length_map]
    obtain ⟨q, hq⟩ : ∃ q, steps.length - 1 - k = q := ⟨_, rfl⟩
    rw [hq] at hfi ⊢
    have hqn : q < steps.length := by omega
    have hp2 := premI_len (steps.getD q Step.z)
    generalize hsd : steps.getD q Step.z = s at *
    have c2 := premises_ok s
    have hel : el (List.map D.bool (ndF steps k)) q = .bool ((ndF steps k).getD q false) := el_map (f := D.bool) false (by omega)
    generalize ndF steps k = fl at *
    generalize ndL steps k = ol at *
    simp (disch := first | omega | decide +kernel) only [hsd, D.step, hel, el_ints, el_intss, el_steps, wrap_of, Int.toNat_natCast, toNat_pred, Int.toNat_zero, Nat.sub_zero, List.drop_zero, ← List.map_take, ← List.map_drop, go_sem, Nat.reduceEqDiff, Nat.reduceLT, Nat.reduceAdd, Nat.reduceMul, Nat.reduceSub, ↓reduceIte, reduceCtorEq, Nat.reduceLeDiff, Nat.reduceSubDiff, Nat.reduceBEq]
    (repeat' (first | (refine gsel_split (fun h => ?_) (fun h => ?_) <;> (have h' := h) <;> (try simp only [decide_eq_true_eq, decide_eq_false_iff_not, Bool.not_eq_true', Bool.not_eq_false', bne_iff_ne, ne_eq, beq_iff_eq, bne_eq_false_iff_eq, beq_eq_false_iff_ne, Int.ofNat_lt, Int.ofNat_le, Int.not_lt, Int.not_le, Decidable.not_not, Bool.and_eq_true, Bool.or_eq_true, Bool.or_eq_false_iff, gt_iff_lt, ge_iff_le] at h') <;> simp (disch := first | omega | decide +kernel) only [h, el_ints, el_intss, el_steps, wrap_of, Int.toNat_natCast, toNat_pred, Int.toNat_zero, Nat.sub_zero, List.drop_zero, ← List.map_take, ← List.map_drop, hsd, D.step, D.ints, hel, go_sem, Nat.reduceEqDiff, Nat.reduceLT, Nat.reduceAdd, Nat.reduceMul, Nat.reduceSub, ↓reduceIte, reduceCtorEq, Nat.reduceLeDiff, Nat.reduceSubDiff, Nat.reduceBEq] <;> clear h) | ((first | refine callX_shared (c2) rfl (by decide) ?_ | refine callY_shared (c2) rfl ?_ | refine hE _ _ ret_ne ?_ | refine hE _ _ exit_ne ?_) <;> try simp (disch := first | omega | decide +kernel) only [el_ints, el_intss, el_steps, wrap_of, Int.toNat_natCast, toNat_pred, Int.toNat_zero, Nat.sub_zero, List.drop_zero, ← List.map_take, ← List.map_drop, hsd, D.step, D.ints, hel, go_sem, Nat.reduceEqDiff, Nat.reduceLT, Nat.reduceAdd, Nat.reduceMul, Nat.reduceSub, ↓reduceIte, reduceCtorEq, Nat.reduceLeDiff, Nat.reduceSubDiff, Nat.reduceBEq]) | (refine hN _ ?_ ?_ (Wk.auto (by simp [extraK, lk, killL, St.kill, wipeO, wipeS, AV.has, AV.hasL, AO.wipe, List.map_set, updSt, insL, dropS, ins]) (by simp [extraK, lk, killL, St.kill, wipeO, wipeS, AV.has, AV.hasL, AO.wipe, List.map_set, updSt, insL, dropS, ins]))) | (with_reducible refine And.intro ?_ ?_) | (with_reducible omega) | (exact ok_ints) | (exact cells_ints) | (exact no_mem) | (with_reducible exact plain_ints) | (refine le_maxLen ?_; omega) | (refine List.forall_mem_cons.2 ⟨?_, ?_⟩) | (simp only [go_sem, List.length_cons, List.length_nil, Nat.reduceAdd, Nat.reduceLT, Nat.zero_lt_succ, and_self, List.mem_cons, List.not_mem_nil, or_false, forall_eq]; done)))
    · have hon : ¬ onN steps fl q = true := by
        have h1 : fl.getD q false = false := by assumption
        simp only [onN, h1, Bool.or_false, decide_eq_true_eq]; omega
      rw [if_neg hon, if_neg hon]
      refine ⟨rfl, [31], [(31, .arr 3 1 (List.map (D.int .i64) ol)), (11, .arr 4 1 (List.map D.bool fl)), (4, .box 39 [.sl 31]), (3, .box 59 [.sl 11]), (2, .arr 3 1 []), (1, .box 28 [.d (.slice (List.map D.step steps))])], by simp [lk], by simp [lk], by simp, by simp, _, ?_, rfl⟩
      exact (Wk.auto (by simp [extraK, lk, killL, St.kill, wipeO, wipeS, AV.has, AV.hasL, AO.wipe, List.map_set, updSt, insL, dropS, ins, impM, mvO, AO.mv, AV.mv, AV.mvL, insAll, St.put]) (by simp [extraK, lk, killL, St.kill, wipeO, wipeS, AV.has, AV.hasL, AO.wipe, List.map_set, updSt, insL, dropS, ins, impM, mvO, AO.mv, AV.mv, AV.mvL, insAll, St.put]))
    · have hon : onN steps fl q = true := by
        have h1 : fl.getD q false = false := by assumption
        simp only [onN, h1, Bool.or_false, decide_eq_true_eq]; omega
      refine Ok.loopN [44, 42, 41, 40, 39, 38, 37, 36, 35, 32, 31, 30, 29, 28, 27, 26, 25, 24, 23, 22, 21, 20, 19, 18, 17, 16, 15, 14, 12, 11, 10, 9, 8, 7, 6, 5, 0] (fun j _ => [(35, .d (.int .i64 (j : Nat)))]) (fun _ (l : List Bool) => [(11, .arr 4 1 (List.map D.bool l))]) (premI s).length
        (fun j l => l.length = steps.length ∧ markF l ((premI s).drop j) = markF fl (premI s)) fl ⟨hfl, rfl⟩ (Wk.auto (by simp [extraK, lk, killL, St.kill, wipeO, wipeS, AV.has, AV.hasL, AO.wipe, List.map_set, updSt, insL, dropS, ins]) (by simp [extraK, lk, killL, St.kill, wipeO, wipeS, AV.has, AV.hasL, AO.wipe, List.map_set, updSt, insL, dropS, ins])) ?_
      rintro R2 j l hN hE hj ⟨hl1, hl3⟩
      by_cases hjt : j < (premI s).length
      · have hr := hfi j hjt
        rw [drop_cons (0 : Int) (premI s) j hjt] at hl3
        generalize hk2 : (premI s).getD j 0 = p at *
        have hel2 : el (List.map D.bool l) p.toNat = .bool (l.getD p.toNat false) := el_map (f := D.bool) false (by omega)
        simp (disch := first | omega | decide +kernel) only [hk2, el_ints, el_intss, el_steps, wrap_of, Int.toNat_natCast, toNat_pred, Int.toNat_zero, Nat.sub_zero, List.drop_zero, ← List.map_take, ← List.map_drop, go_sem, Nat.reduceEqDiff, Nat.reduceLT, Nat.reduceAdd, Nat.reduceMul, Nat.reduceSub, ↓reduceIte, reduceCtorEq, Nat.reduceLeDiff, Nat.reduceSubDiff, Nat.reduceBEq]
        (repeat' (first | (refine gsel_split (fun h => ?_) (fun h => ?_) <;> (have h' := h) <;> (try simp only [decide_eq_true_eq, decide_eq_false_iff_not, Bool.not_eq_true', Bool.not_eq_false', bne_iff_ne, ne_eq, beq_iff_eq, bne_eq_false_iff_eq, beq_eq_false_iff_ne, Int.ofNat_lt, Int.ofNat_le, Int.not_lt, Int.not_le, Decidable.not_not, Bool.and_eq_true, Bool.or_eq_true, Bool.or_eq_false_iff, gt_iff_lt, ge_iff_le] at h') <;> simp (disch := first | omega | decide +kernel) only [h, el_ints, el_intss, el_steps, wrap_of, Int.toNat_natCast, toNat_pred, Int.toNat_zero, Nat.sub_zero, List.drop_zero, ← List.map_take, ← List.map_drop, hk2, hel2, go_sem, Nat.reduceEqDiff, Nat.reduceLT, Nat.reduceAdd, Nat.reduceMul, Nat.reduceSub, ↓reduceIte, reduceCtorEq, Nat.reduceLeDiff, Nat.reduceSubDiff, Nat.reduceBEq] <;> clear h) | ((first | refine hE _ _ ret_ne ?_ | refine hE _ _ exit_ne ?_) <;> try simp (disch := first | omega | decide +kernel) only [el_ints, el_intss, el_steps, wrap_of, Int.toNat_natCast, toNat_pred, Int.toNat_zero, Nat.sub_zero, List.drop_zero, ← List.map_take, ← List.map_drop, hk2, hel2, go_sem, Nat.reduceEqDiff, Nat.reduceLT, Nat.reduceAdd, Nat.reduceMul, Nat.reduceSub, ↓reduceIte, reduceCtorEq, Nat.reduceLeDiff, Nat.reduceSubDiff, Nat.reduceBEq]) | (refine hN _ ?_ ?_ (Wk.auto (by simp [extraK, lk, killL, St.kill, wipeO, wipeS, AV.has, AV.hasL, AO.wipe, List.map_set, updSt, insL, dropS, ins]) (by simp [extraK, lk, killL, St.kill, wipeO, wipeS, AV.has, AV.hasL, AO.wipe, List.map_set, updSt, insL, dropS, ins]))) | (with_reducible refine And.intro ?_ ?_) | (with_reducible omega) | (exact ok_ints) | (exact cells_ints) | (exact no_mem) | (with_reducible exact plain_ints) | (refine le_maxLen ?_; omega) | (refine List.forall_mem_cons.2 ⟨?_, ?_⟩) | (simp only [go_sem, List.length_cons, List.length_nil, Nat.reduceAdd, Nat.reduceLT, Nat.zero_lt_succ, and_self, List.mem_cons, List.not_mem_nil, or_false, forall_eq]; done)))
        refine hN (l.set p.toNat true) _ hjt ⟨by simp [hl1], hl3⟩ (Wk.auto (by simp [extraK, lk, killL, St.kill, wipeO, wipeS, AV.has, AV.hasL, AO.wipe, List.map_set, updSt, insL, dropS, ins, ]) (by simp [extraK, lk, killL, St.kill, wipeO, wipeS, AV.has, AV.hasL, AO.wipe, List.map_set, updSt, insL, dropS, ins, ]))
      · rw [List.drop_eq_nil_of_le (by omega)] at hl3
        simp (disch := first | omega | decide +kernel) only [el_ints, el_intss, el_steps, wrap_of, Int.toNat_natCast, toNat_pred, Int.toNat_zero, Nat.sub_zero, List.drop_zero, ← List.map_take, ← List.map_drop, go_sem, Nat.reduceEqDiff, Nat.reduceLT, Nat.reduceAdd, Nat.reduceMul, Nat.reduceSub, ↓reduceIte, reduceCtorEq, Nat.reduceLeDiff, Nat.reduceSubDiff, Nat.reduceBEq]
        (repeat' (first | (refine gsel_split (fun h => ?_) (fun h => ?_) <;> (have h' := h) <;> (try simp only [decide_eq_true_eq, decide_eq_false_iff_not, Bool.not_eq_true', Bool.not_eq_false', bne_iff_ne, ne_eq, beq_iff_eq, bne_eq_false_iff_eq, beq_eq_false_iff_ne, Int.ofNat_lt, Int.ofNat_le, Int.not_lt, Int.not_le, Decidable.not_not, Bool.and_eq_true, Bool.or_eq_true, Bool.or_eq_false_iff, gt_iff_lt, ge_iff_le] at h') <;> simp (disch := first | omega | decide +kernel) only [h, el_ints, el_intss, el_steps, wrap_of, Int.toNat_natCast, toNat_pred, Int.toNat_zero, Nat.sub_zero, List.drop_zero, ← List.map_take, ← List.map_drop, go_sem, Nat.reduceEqDiff, Nat.reduceLT, Nat.reduceAdd, Nat.reduceMul, Nat.reduceSub, ↓reduceIte, reduceCtorEq, Nat.reduceLeDiff, Nat.reduceSubDiff, Nat.reduceBEq] <;> clear h) | ((first | refine hE _ _ ret_ne ?_ | refine hE _ _ exit_ne ?_) <;> try simp (disch := first | omega | decide +kernel) only [el_ints, el_intss, el_steps, wrap_of, Int.toNat_natCast, toNat_pred, Int.toNat_zero, Nat.sub_zero, List.drop_zero, ← List.map_take, ← List.map_drop, go_sem, Nat.reduceEqDiff, Nat.reduceLT, Nat.reduceAdd, Nat.reduceMul, Nat.reduceSub, ↓reduceIte, reduceCtorEq, Nat.reduceLeDiff, Nat.reduceSubDiff, Nat.reduceBEq]) | (refine hN _ ?_ ?_ (Wk.auto (by simp [extraK, lk, killL, St.kill, wipeO, wipeS, AV.has, AV.hasL, AO.wipe, List.map_set, updSt, insL, dropS, ins]) (by simp [extraK, lk, killL, St.kill, wipeO, wipeS, AV.has, AV.hasL, AO.wipe, List.map_set, updSt, insL, dropS, ins]))) | (with_reducible refine And.intro ?_ ?_) | (with_reducible omega) | (exact ok_ints) | (exact cells_ints) | (exact no_mem) | (with_reducible exact plain_ints) | (refine le_maxLen ?_; omega) | (refine List.forall_mem_cons.2 ⟨?_, ?_⟩) | (simp only [go_sem, List.length_cons, List.length_nil, Nat.reduceAdd, Nat.reduceLT, Nat.zero_lt_succ, and_self, List.mem_cons, List.not_mem_nil, or_false, forall_eq]; done)))
        have hl4 : l = markF fl (premI s) := hl3
        rw [if_pos hon, if_pos hon, ← hl4]
        refine ⟨rfl, [31], [(31, .arr 3 1 (List.map (D.int .i64) (ol ++ [(q : Int)]))), (11, .arr 4 1 (List.map D.bool l)), (4, .box 39 [.sl 31]), (3, .box 59 [.sl 11]), (2, .arr 3 1 []), (1, .box 28 [.d (.slice (List.map D.step steps))])], by simp [lk], by simp [lk], by simp, by simp, _, ?_, rfl⟩
        exact (Wk.auto (by simp [extraK, lk, killL, St.kill, wipeO, wipeS, AV.has, AV.hasL, AO.wipe, List.map_set, updSt, insL, dropS, ins, impM, mvO, AO.mv, AV.mv, AV.mvL, insAll, St.put]) (by simp [extraK, lk, killL, St.kill, wipeO, wipeS, AV.has, AV.hasL, AO.wipe, List.map_set, updSt, insL, dropS, ins, impM, mvO, AO.mv, AV.mv, AV.mvL, insAll, St.put]))
    · have hon : onN steps fl q = true := by
        have h1 : fl.getD q false = true := by assumption
        simp only [onN, h1, Bool.or_true]
      refine Ok.loopN [44, 42, 41, 40, 39, 38, 37, 36, 35, 32, 31, 30, 29, 28, 27, 26, 25, 24, 23, 22, 21, 20, 19, 18, 17, 16, 15, 14, 12, 11, 10, 9, 8, 7, 6, 5, 0] (fun j _ => [(35, .d (.int .i64 (j : Nat)))]) (fun _ (l : List Bool) => [(11, .arr 4 1 (List.map D.bool l))]) (premI s).length
        (fun j l => l.length = steps.length ∧ markF l ((premI s).drop j) = markF fl (premI s)) fl ⟨hfl, rfl⟩ (Wk.auto (by simp [extraK, lk, killL, St.kill, wipeO, wipeS, AV.has, AV.hasL, AO.wipe, List.map_set, updSt, insL, dropS, ins]) (by simp [extraK, lk, killL, St.kill, wipeO, wipeS, AV.has, AV.hasL, AO.wipe, List.map_set, updSt, insL, dropS, ins])) ?_
      rintro R2 j l hN hE hj ⟨hl1, hl3⟩
      by_cases hjt : j < (premI s).length
      · have hr := hfi j hjt
        rw [drop_cons (0 : Int) (premI s) j hjt] at hl3
        generalize hk2 : (premI s).getD j 0 = p at *
        have hel2 : el (List.map D.bool l) p.toNat = .bool (l.getD p.toNat false) := el_map (f := D.bool) false (by omega)
        simp (disch := first | omega | decide +kernel) only [hk2, el_ints, el_intss, el_steps, wrap_of, Int.toNat_natCast, toNat_pred, Int.toNat_zero, Nat.sub_zero, List.drop_zero, ← List.map_take, ← List.map_drop, go_sem, Nat.reduceEqDiff, Nat.reduceLT, Nat.reduceAdd, Nat.reduceMul, Nat.reduceSub, ↓reduceIte, reduceCtorEq, Nat.reduceLeDiff, Nat.reduceSubDiff, Nat.reduceBEq]
        (repeat' (first | (refine gsel_split (fun h => ?_) (fun h => ?_) <;> (have h' := h) <;> (try simp only [decide_eq_true_eq, decide_eq_false_iff_not, Bool.not_eq_true', Bool.not_eq_false', bne_iff_ne, ne_eq, beq_iff_eq, bne_eq_false_iff_eq, beq_eq_false_iff_ne, Int.ofNat_lt, Int.ofNat_le, Int.not_lt, Int.not_le, Decidable.not_not, Bool.and_eq_true, Bool.or_eq_true, Bool.or_eq_false_iff, gt_iff_lt, ge_iff_le] at h') <;> simp (disch := first | omega | decide +kernel) only [h, el_ints, el_intss, el_steps, wrap_of, Int.toNat_natCast, toNat_pred, Int.toNat_zero, Nat.sub_zero, List.drop_zero, ← List.map_take, ← List.map_drop, hk2, hel2, go_sem, Nat.reduceEqDiff, Nat.reduceLT, Nat.reduceAdd, Nat.reduceMul, Nat.reduceSub, ↓reduceIte, reduceCtorEq, Nat.reduceLeDiff, Nat.reduceSubDiff, Nat.reduceBEq] <;> clear h) | ((first | refine hE _ _ ret_ne ?_ | refine hE _ _ exit_ne ?_) <;> try simp (disch := first | omega | decide +kernel) only [el_ints, el_intss, el_steps, wrap_of, Int.toNat_natCast, toNat_pred, Int.toNat_zero, Nat.sub_zero, List.drop_zero, ← List.map_take, ← List.map_drop, hk2, hel2, go_sem, Nat.reduceEqDiff, Nat.reduceLT, Nat.reduceAdd, Nat.reduceMul, Nat.reduceSub, ↓reduceIte, reduceCtorEq, Nat.reduceLeDiff, Nat.reduceSubDiff, Nat.reduceBEq]) | (refine hN _ ?_ ?_ (Wk.auto (by simp [extraK, lk, killL, St.kill, wipeO, wipeS, AV.has, AV.hasL, AO.wipe, List.map_set, updSt, insL, dropS, ins]) (by simp [extraK, lk, killL, St.kill, wipeO, wipeS, AV.has, AV.hasL, AO.wipe, List.map_set, updSt, insL, dropS, ins]))) | (with_reducible refine And.intro ?_ ?_) | (with_reducible omega) | (exact ok_ints) | (exact cells_ints) | (exact no_mem) | (with_reducible exact plain_ints) | (refine le_maxLen ?_; omega) | (refine List.forall_mem_cons.2 ⟨?_, ?_⟩) | (simp only [go_sem, List.length_cons, List.length_nil, Nat.reduceAdd, Nat.reduceLT, Nat.zero_lt_succ, and_self, List.mem_cons, List.not_mem_nil, or_false, forall_eq]; done)))
        refine hN (l.set p.toNat true) _ hjt ⟨by simp [hl1], hl3⟩ (Wk.auto (by simp [extraK, lk, killL, St.kill, wipeO, wipeS, AV.has, AV.hasL, AO.wipe, List.map_set, updSt, insL, dropS, ins, ]) (by simp [extraK, lk, killL, St.kill, wipeO, wipeS, AV.has, AV.hasL, AO.wipe, List.map_set, updSt, insL, dropS, ins, ]))
      · rw [List.drop_eq_nil_of_le (by omega)] at hl3
        simp (disch := first | omega | decide +kernel) only [el_ints, el_intss, el_steps, wrap_of, Int.toNat_natCast, toNat_pred, Int.toNat_zero, Nat.sub_zero, List.drop_zero, ← List.map_take, ← List.map_drop, go_sem, Nat.reduceEqDiff, Nat.reduceLT, Nat.reduceAdd, Nat.reduceMul, Nat.reduceSub, ↓reduceIte, reduceCtorEq, Nat.reduceLeDiff, Nat.reduceSubDiff, Nat.reduceBEq]
        (repeat' (first | (refine gsel_split (fun h => ?_) (fun h => ?_) <;> (have h' := h) <;> (try simp only [decide_eq_true_eq, decide_eq_false_iff_not, Bool.not_eq_true', Bool.not_eq_false', bne_iff_ne, ne_eq, beq_iff_eq, bne_eq_false_iff_eq, beq_eq_false_iff_ne, Int.ofNat_lt, Int.ofNat_le, Int.not_lt, Int.not_le, Decidable.not_not, Bool.and_eq_true, Bool.or_eq_true, Bool.or_eq_false_iff, gt_iff_lt, ge_iff_le] at h') <;> simp (disch := first | omega | decide +kernel) only [h, el_ints, el_intss, el_steps, wrap_of, Int.toNat_natCast, toNat_pred, Int.toNat_zero, Nat.sub_zero, List.drop_zero, ← List.map_take, ← List.map_drop, go_sem, Nat.reduceEqDiff, Nat.reduceLT, Nat.reduceAdd, Nat.reduceMul, Nat.reduceSub, ↓reduceIte, reduceCtorEq, Nat.reduceLeDiff, Nat.reduceSubDiff, Nat.reduceBEq] <;> clear h) | ((first | refine hE _ _ ret_ne ?_ | refine hE _ _ exit_ne ?_) <;> try simp (disch := first | omega | decide +kernel) only [el_ints, el_intss, el_steps, wrap_of, Int.toNat_natCast, toNat_pred, Int.toNat_zero, Nat.sub_zero, List.drop_zero, ← List.map_take, ← List.map_drop, go_sem, Nat.reduceEqDiff, Nat.reduceLT, Nat.reduceAdd, Nat.reduceMul, Nat.reduceSub, ↓reduceIte, reduceCtorEq, Nat.reduceLeDiff, Nat.reduceSubDiff, Nat.reduceBEq]) | (refine hN _ ?_ ?_ (Wk.auto (by simp [extraK, lk, killL, St.kill, wipeO, wipeS, AV.has, AV.hasL, AO.wipe, List.map_set, updSt, insL, dropS, ins]) (by simp [extraK, lk, killL, St.kill, wipeO, wipeS, AV.has, AV.hasL, AO.wipe, List.map_set, updSt, insL, dropS, ins]))) | (with_reducible refine And.intro ?_ ?_) | (with_reducible omega) | (exact ok_ints) | (exact cells_ints) | (exact no_mem) | (with_reducible exact plain_ints) | (refine le_maxLen ?_; omega) | (refine List.forall_mem_cons.2 ⟨?_, ?_⟩) | (simp only [go_sem, List.length_cons, List.length_nil, Nat.reduceAdd, Nat.reduceLT, Nat.zero_lt_succ, and_self, List.mem_cons, List.not_mem_nil, or_false, forall_eq]; done)))
        have hl4 : l = markF fl (premI s) := hl3
        rw [if_pos hon, if_pos hon, ← hl4]
        refine ⟨rfl, [31], [(31, .arr 3 1 (List.map (D.int .i64) (ol ++ [(q : Int)]))), (11, .arr 4 1 (List.map D.bool l)), (4, .box 39 [.sl 31]), (3, .box 59 [.sl 11]), (2, .arr 3 1 []), (1, .box 28 [.d (.slice (List.map D.step steps))])], by simp [lk], by simp [lk], by simp, by simp, _, ?_, rfl⟩
        exact (Wk.auto (by simp [extraK, lk, killL, St.kill, wipeO, wipeS, AV.has, AV.hasL, AO.wipe, List.map_set, updSt, insL, dropS, ins, impM, mvO, AO.mv, AV.mv, AV.mvL, insAll, St.put]) (by simp [extraK, lk, killL, St.kill, wipeO, wipeS, AV.has, AV.hasL, AO.wipe, List.map_set, updSt, insL, dropS, ins, impM, mvO, AO.mv, AV.mv, AV.mvL, insAll, St.put]))
  · subst h
    simp only [List.length_map]
    have hll := ndL_len steps steps.length
    have c3 := reverse_ok (ndL steps steps.length) (by omega)
    rw [ndL_rev steps hf] at c3
    simp (disch := first | omega | decide +kernel) only [el_ints, el_intss, el_steps, wrap_of, Int.toNat_natCast, toNat_pred, Int.toNat_zero, Nat.sub_zero, List.drop_zero, ← List.map_take, ← List.map_drop, go_sem, Nat.reduceEqDiff, Nat.reduceLT, Nat.reduceAdd, Nat.reduceMul, Nat.reduceSub, ↓reduceIte, reduceCtorEq, Nat.reduceLeDiff, Nat.reduceSubDiff, Nat.reduceBEq]
    (repeat' (first | (refine gsel_split (fun h => ?_) (fun h => ?_) <;> (have h' := h) <;> (try simp only [decide_eq_true_eq, decide_eq_false_iff_not, Bool.not_eq_true', Bool.not_eq_false', bne_iff_ne, ne_eq, beq_iff_eq, bne_eq_false_iff_eq, beq_eq_false_iff_ne, Int.ofNat_lt, Int.ofNat_le, Int.not_lt, Int.not_le, Decidable.not_not, Bool.and_eq_true, Bool.or_eq_true, Bool.or_eq_false_iff, gt_iff_lt, ge_iff_le] at h') <;> simp (disch := first | omega | decide +kernel) only [h, el_ints, el_intss, el_steps, wrap_of, Int.toNat_natCast, toNat_pred, Int.toNat_zero, Nat.sub_zero, List.drop_zero, ← List.map_take, ← List.map_drop, go_sem, Nat.reduceEqDiff, Nat.reduceLT, Nat.reduceAdd, Nat.reduceMul, Nat.reduceSub, ↓reduceIte, reduceCtorEq, Nat.reduceLeDiff, Nat.reduceSubDiff, Nat.reduceBEq] <;> clear h) | ((first | refine hE _ _ ret_ne ?_ | refine hE _ _ exit_ne ?_) <;> try simp (disch := first | omega | decide +kernel) only [el_ints, el_intss, el_steps, wrap_of, Int.toNat_natCast, toNat_pred, Int.toNat_zero, Nat.sub_zero, List.drop_zero, ← List.map_take, ← List.map_drop, go_sem, Nat.reduceEqDiff, Nat.reduceLT, Nat.reduceAdd, Nat.reduceMul, Nat.reduceSub, ↓reduceIte, reduceCtorEq, Nat.reduceLeDiff, Nat.reduceSubDiff, Nat.reduceBEq]) | (refine hN _ ?_ ?_ (Wk.auto (by simp [extraK, lk, killL, St.kill, wipeO, wipeS, AV.has, AV.hasL, AO.wipe, List.map_set, updSt, insL, dropS, ins]) (by simp [extraK, lk, killL, St.kill, wipeO, wipeS, AV.has, AV.hasL, AO.wipe, List.map_set, updSt, insL, dropS, ins]))) | (with_reducible refine And.intro ?_ ?_) | (with_reducible omega) | (exact ok_ints) | (exact cells_ints) | (exact no_mem) | (with_reducible exact plain_ints) | (refine le_maxLen ?_; omega) | (refine List.forall_mem_cons.2 ⟨?_, ?_⟩) | (simp only [go_sem, List.length_cons, List.length_nil, Nat.reduceAdd, Nat.reduceLT, Nat.zero_lt_succ, and_self, List.mem_cons, List.not_mem_nil, or_false, forall_eq]; done)))
    refine callX_keep _ c3 ⟨.inl rfl, trivial⟩ rfl (by simp [dstB]) ?_
    simp (disch := first | omega | decide +kernel) only [el_ints, el_intss, el_steps, wrap_of, Int.toNat_natCast, toNat_pred, Int.toNat_zero, Nat.sub_zero, List.drop_zero, ← List.map_take, ← List.map_drop, go_sem, Nat.reduceEqDiff, Nat.reduceLT, Nat.reduceAdd, Nat.reduceMul, Nat.reduceSub, ↓reduceIte, reduceCtorEq, Nat.reduceLeDiff, Nat.reduceSubDiff, Nat.reduceBEq]
    (repeat' (first | (refine gsel_split (fun h => ?_) (fun h => ?_) <;> (have h' := h) <;> (try simp only [decide_eq_true_eq, decide_eq_false_iff_not, Bool.not_eq_true', Bool.not_eq_false', bne_iff_ne, ne_eq, beq_iff_eq, bne_eq_false_iff_eq, beq_eq_false_iff_ne, Int.ofNat_lt, Int.ofNat_le, Int.not_lt, Int.not_le, Decidable.not_not, Bool.and_eq_true, Bool.or_eq_true, Bool.or_eq_false_iff, gt_iff_lt, ge_iff_le] at h') <;> simp (disch := first | omega | decide +kernel) only [h, el_ints, el_intss, el_steps, wrap_of, Int.toNat_natCast, toNat_pred, Int.toNat_zero, Nat.sub_zero, List.drop_zero, ← List.map_take, ← List.map_drop, go_sem, Nat.reduceEqDiff, Nat.reduceLT, Nat.reduceAdd, Nat.reduceMul, Nat.reduceSub, ↓reduceIte, reduceCtorEq, Nat.reduceLeDiff, Nat.reduceSubDiff, Nat.reduceBEq] <;> clear h) | ((first | refine hE _ _ ret_ne ?_ | refine hE _ _ exit_ne ?_) <;> try simp (disch := first | omega | decide +kernel) only [el_ints, el_intss, el_steps, wrap_of, Int.toNat_natCast, toNat_pred, Int.toNat_zero, Nat.sub_zero, List.drop_zero, ← List.map_take, ← List.map_drop, go_sem, Nat.reduceEqDiff, Nat.reduceLT, Nat.reduceAdd, Nat.reduceMul, Nat.reduceSub, ↓reduceIte, reduceCtorEq, Nat.reduceLeDiff, Nat.reduceSubDiff, Nat.reduceBEq]) | (refine hN _ ?_ ?_ (Wk.auto (by simp [extraK, lk, killL, St.kill, wipeO, wipeS, AV.has, AV.hasL, AO.wipe, List.map_set, updSt, insL, dropS, ins]) (by simp [extraK, lk, killL, St.kill, wipeO, wipeS, AV.has, AV.hasL, AO.wipe, List.map_set, updSt, insL, dropS, ins]))) | (with_reducible refine And.intro ?_ ?_) | (with_reducible omega) | (exact ok_ints) | (exact cells_ints) | (exact no_mem) | (with_reducible exact plain_ints) | (refine le_maxLen ?_; omega) | (refine List.forall_mem_cons.2 ⟨?_, ?_⟩) | (simp only [go_sem, List.length_cons, List.length_nil, Nat.reduceAdd, Nat.reduceLT, Nat.zero_lt_succ, and_self, List.mem_cons, List.not_mem_nil, or_false, forall_eq]; done)))
    exact ret_sl 31 rfl rfl plain_ints
end Abs.Y
