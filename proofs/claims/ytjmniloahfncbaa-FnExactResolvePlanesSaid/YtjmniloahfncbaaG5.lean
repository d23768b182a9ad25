/- What functions of this program compute, as contracts over plain data, with what the proofs need of them. No condition. -/
import Derived.Test.YtjmniloahfncbaaG4
import Derived.Test.YtjmniloahfncbaaW1
import Derived.Test.YtjmniloahfncbaaAbsShelf
import Derived.Lib.RowBridge
set_option linter.all false
namespace Abs.Y
open Go Go.Proofs Abs Go.Sort Go.Shelf Go.Lib Go.RowKit
set_option maxRecDepth 100000

/-! ### The order of literals -/
def mI (a : Int) : Int := max a (wrap64 (-a))
theorem cmpLit_lt (a b : Int) : ltOf cmpLit a b = decide (mI a < mI b ∨ (mI a = mI b ∧ b < a)) := by
  unfold ltOf cmpLit Lib.compareInt
  show decide ((if (if mI a < mI b then (-1 : Int) else if mI b < mI a then 1 else 0) ≠ 0 then (if mI a < mI b then (-1 : Int) else if mI b < mI a then 1 else 0) else if b < a then (-1 : Int) else if a < b then 1 else 0) < 0) = _
  generalize mI a = x
  generalize mI b = y
  by_cases h1 : x < y
  · simp [h1]
  · by_cases h2 : y < x
    · simp [h1, h2]; omega
    · have : x = y := by omega
      subst this
      by_cases h3 : b < a
      · simp [h3]
      · by_cases h4 : a < b <;> simp [h3, h4]
theorem cmpLit_swo : SWO (ltOf cmpLit) where
  irrefl x := by rw [cmpLit_lt]; simp
  trans x y z h1 h2 := by rw [cmpLit_lt] at *; simp at *; omega
  ntrans x y z h1 h2 := by rw [cmpLit_lt] at *; simp at *; omega
theorem cmpLit_total (x y : Int) (h1 : ltOf cmpLit x y = false) (h2 : ltOf cmpLit y x = false) : x = y := by
  rw [cmpLit_lt] at *; simp at *; omega
def sortL (xs : List Int) : List Int := xs.mergeSort fun x y => !(ltOf cmpLit y x)
theorem sortL_length (xs : List Int) : (sortL xs).length = xs.length := by simp [sortL]
theorem cmp_lays {blk off size : Nat} {w : World} : CmpLays1 Try.prog 177 #[] (Value.int .i64) cmpLit blk off size w := fun m os dk _ x y =>
  (Try.cmpLit_w x y _).mono fun _ _ ⟨he, q, os', hw⟩ => ⟨he, q, os', hw⟩
theorem sort_ok (xs : List Int) (hx : xs.length ≤ 4294967296) : CtrM Try.prog 181 [.sl 0, .fn (.func 177) []] [(0, .arr 3 1 (xs.map (.int .i64)))] [0] false (.tup []) [(0, .arr 3 1 ((sortL xs).map (.int .i64)))] := by
  refine CtrM.inPlace ⟨_, Try.func181, by kernel_rfl, by kernel_rfl⟩ (sortL_length xs) hx fun S β w rv hl hr => ?_
  obtain ⟨v, rfl⟩ : ∃ v, rv = [v] := by
    match rv, hl with
    | [a], _ => exact ⟨a, rfl⟩
  have hv : v = .func (.func 177) #[] #[] := by
    have := hr 0 (by simp)
    simp only [List.getD_cons_zero] at this
    cases this with
    | fn h1 h2 => obtain rfl := List.eq_nil_of_length_eq_zero h1; rfl
  subst hv
  refine ⟨fun _ a cap => ?_, fun g cap hH hg => ?_⟩
  · exact AnyF.slices_SortFunc_none { Try.layS with } a cap _ w
  · have eg : ∀ args w, (callFunc 177 args).run Try.prog w = .ok (.enter 177 args) w := enters_of Try.func177 (by kernel_rfl) rfl
    have h := Any.slices_SortFunc_total Try.layS (Value.int .i64) (fun _ => rfl) cmpLit cmpLit_swo 177 #[] g 0 cap xs.toArray w eg cmp_lays hH hg (by simp; omega) cmpLit_total
    simp only [List.size_toArray] at h
    refine h.mono fun en w' ⟨he, n, os, hw⟩ => ⟨he, n, os, ?_⟩
    rw [hw]; rfl
/-- Neighbours that are equal become one. -/
def compL (xs : List Int) : List Int := Lib.compact xs
theorem compact_ok (xs : List Int) (hx : xs.length ≤ 4294967296) : CtrM Try.prog 182 [.sl 0] [(0, .arr 3 1 (xs.map (.int .i64)))] [] false (.sl 0) [(0, .arr 3 1 ((compL xs).map (.int .i64)))] := by
  have hle : (Lib.compact xs).length ≤ xs.length := compact_length_le xs
  refine CtrM.cutPlace ⟨_, Try.func182, by kernel_rfl, by kernel_rfl⟩ hle hx fun S β w rv hl hr _ => ?_
  obtain rfl : rv = [] := by simpa using hl
  refine ⟨fun _ => Any.slices_Compact_int_empty Try.layC none 0 w, fun g cap _ hH hg hcap => ?_⟩
  have h := Any.slices_Compact_int Try.layC g 0 cap xs w hH (by omega) hcap
  refine Calls.mono h fun en w' ⟨he, q, hw⟩ => ?_
  refine ⟨he, q, Lib.compact xs ++ List.replicate (xs.length - (Lib.compact xs).length) 0, #[], ?_, ?_, ?_, ?_⟩
  · simp; omega
  · simp [compL]
  · simp [compL]
  · rw [hw]; unfold sortWorld; rw [grow_empty]
theorem grow_ok (n : Nat) (hn : n ≤ 4294967296) : CtrM Try.prog 200 [.nilS, .d (.int .i64 n)] [] [] false (.sl 0) [(0, .arr 3 1 [])] :=
  CtrM.growNil Try.layG _ rfl rfl rfl rfl ⟨_, Try.func200, by kernel_rfl, by kernel_rfl⟩ n hn
theorem mI_absI (n : Int) : absI n = mI n := by
  rw [absI, mI, show IntKind.i64.wrap (0 - n) = wrap64 (-n) by rw [Int.zero_sub, IntKind.wrap_i64]; unfold wrap64; omega]
  split <;> omega
theorem wv_ok (l v : Int) : Ctr Try.prog 201 [.int .i64 l, .ptr (.int .i64 v)] false (.d (.bool (mI l == v))) [] := by
  refine Ctr.of (n := 8) (rs := [.tmp 3]) Try.func201 rfl rfl Try.ntmps201 rfl rfl (by kernel_rfl) Try.checked.mixed ?_
  simp (disch := first | omega | decide +kernel) only [go_sem, Nat.reduceEqDiff, Nat.reduceLT, Nat.reduceAdd, Nat.reduceMul, Nat.reduceSub, ↓reduceIte, reduceCtorEq, Nat.reduceLeDiff, Nat.reduceSubDiff, Nat.reduceBEq]
  (repeat' (first | (refine gsel_split (fun h => ?_) (fun h => ?_) <;> (have h' := h) <;> (try simp only [decide_eq_true_eq, decide_eq_false_iff_not, Bool.not_eq_true', Bool.not_eq_false', bne_iff_ne, ne_eq, beq_iff_eq, bne_eq_false_iff_eq, beq_eq_false_iff_ne, Int.ofNat_lt, Int.ofNat_le, Int.not_lt, Int.not_le, Decidable.not_not, Bool.and_eq_true, Bool.or_eq_true, Bool.or_eq_false_iff, gt_iff_lt, ge_iff_le] at h') <;> simp (disch := first | omega | decide +kernel) only [h, el_ints, el_intss, el_steps, wrap_of, Int.toNat_natCast, toNat_pred, Int.toNat_zero, Nat.sub_zero, List.drop_zero, ← List.map_take, ← List.map_drop, go_sem, Nat.reduceEqDiff, Nat.reduceLT, Nat.reduceAdd, Nat.reduceMul, Nat.reduceSub, ↓reduceIte, reduceCtorEq, Nat.reduceLeDiff, Nat.reduceSubDiff, Nat.reduceBEq] <;> clear h) | (refine callX_new (abs_ok _) rfl (by decide) ?_ <;> try simp (disch := first | omega | decide +kernel) only [el_ints, el_intss, el_steps, wrap_of, Int.toNat_natCast, toNat_pred, Int.toNat_zero, Nat.sub_zero, List.drop_zero, ← List.map_take, ← List.map_drop, go_sem, Nat.reduceEqDiff, Nat.reduceLT, Nat.reduceAdd, Nat.reduceMul, Nat.reduceSub, ↓reduceIte, reduceCtorEq, Nat.reduceLeDiff, Nat.reduceSubDiff, Nat.reduceBEq]) | (refine callY_new (abs_ok _) rfl ?_ <;> try simp (disch := first | omega | decide +kernel) only [el_ints, el_intss, el_steps, wrap_of, Int.toNat_natCast, toNat_pred, Int.toNat_zero, Nat.sub_zero, List.drop_zero, ← List.map_take, ← List.map_drop, go_sem, Nat.reduceEqDiff, Nat.reduceLT, Nat.reduceAdd, Nat.reduceMul, Nat.reduceSub, ↓reduceIte, reduceCtorEq, Nat.reduceLeDiff, Nat.reduceSubDiff, Nat.reduceBEq]) | (refine hE _ _ ret_ne ?_ <;> try simp (disch := first | omega | decide +kernel) only [el_ints, el_intss, el_steps, wrap_of, Int.toNat_natCast, toNat_pred, Int.toNat_zero, Nat.sub_zero, List.drop_zero, ← List.map_take, ← List.map_drop, go_sem, Nat.reduceEqDiff, Nat.reduceLT, Nat.reduceAdd, Nat.reduceMul, Nat.reduceSub, ↓reduceIte, reduceCtorEq, Nat.reduceLeDiff, Nat.reduceSubDiff, Nat.reduceBEq]) | (refine hE _ _ exit_ne ?_ <;> try simp (disch := first | omega | decide +kernel) only [el_ints, el_intss, el_steps, wrap_of, Int.toNat_natCast, toNat_pred, Int.toNat_zero, Nat.sub_zero, List.drop_zero, ← List.map_take, ← List.map_drop, go_sem, Nat.reduceEqDiff, Nat.reduceLT, Nat.reduceAdd, Nat.reduceMul, Nat.reduceSub, ↓reduceIte, reduceCtorEq, Nat.reduceLeDiff, Nat.reduceSubDiff, Nat.reduceBEq]) | (refine hN _ ?_ ?_ (Wk.auto (by simp [extraK, lk, killL, St.kill, wipeO, wipeS, AV.has, AV.hasL, AO.wipe, List.map_set, updSt, insL, dropS, ins]) (by simp [extraK, lk, killL, St.kill, wipeO, wipeS, AV.has, AV.hasL, AO.wipe, List.map_set, updSt, insL, dropS, ins]))) | (with_reducible refine And.intro ?_ ?_) | (with_reducible omega) | (exact ok_ints) | (exact cells_ints) | (exact no_mem) | (with_reducible exact plain_ints) | (refine le_maxLen ?_; omega) | (refine List.forall_mem_cons.2 ⟨?_, ?_⟩) | (simp only [go_sem, List.length_cons, List.length_nil, Nat.reduceAdd, Nat.reduceLT, Nat.zero_lt_succ, and_self, List.mem_cons, List.not_mem_nil, or_false, forall_eq]; done)))
  rw [mI_absI]
theorem delete_nil (v : Int) : CtrM Try.prog 147 [.sl 0, .d (.fn (.func 201) [] [.ptr (.int .i64 v)])] [(0, .arr 3 1 [])] [] false (.sl 0)
    [(0, .arr 3 1 [])] := by
  refine CtrM.of (n := 42) (rs := [.tmp 4]) Try.func147 rfl rfl Try.ntmps147 rfl rfl (by kernel_rfl) Try.checked.mixed ?_
  intro u
  simp (disch := first | omega | decide +kernel) only [go_sem, Nat.reduceEqDiff, Nat.reduceLT, Nat.reduceAdd, Nat.reduceMul, Nat.reduceSub, ↓reduceIte, reduceCtorEq, Nat.reduceLeDiff, Nat.reduceSubDiff, Nat.reduceBEq]
  (repeat' (first | (refine gsel_split (fun h => ?_) (fun h => ?_) <;> (have h' := h) <;> (try simp only [decide_eq_true_eq, decide_eq_false_iff_not, Bool.not_eq_true', Bool.not_eq_false', bne_iff_ne, ne_eq, beq_iff_eq, bne_eq_false_iff_eq, beq_eq_false_iff_ne, Int.ofNat_lt, Int.ofNat_le, Int.not_lt, Int.not_le, Decidable.not_not, Bool.and_eq_true, Bool.or_eq_true, Bool.or_eq_false_iff, gt_iff_lt, ge_iff_le] at h') <;> simp (disch := first | omega | decide +kernel) only [h, el_ints, el_intss, el_steps, wrap_of, Int.toNat_natCast, toNat_pred, Int.toNat_zero, Nat.sub_zero, List.drop_zero, ← List.map_take, ← List.map_drop, go_sem, Nat.reduceEqDiff, Nat.reduceLT, Nat.reduceAdd, Nat.reduceMul, Nat.reduceSub, ↓reduceIte, reduceCtorEq, Nat.reduceLeDiff, Nat.reduceSubDiff, Nat.reduceBEq] <;> clear h) | (refine callX_new (indexFunc1_ok List.nil _ _ _ (by simp) fun x => wv_ok x v) rfl (by decide) ?_ <;> try simp (disch := first | omega | decide +kernel) only [el_ints, el_intss, el_steps, wrap_of, Int.toNat_natCast, toNat_pred, Int.toNat_zero, Nat.sub_zero, List.drop_zero, ← List.map_take, ← List.map_drop, go_sem, Nat.reduceEqDiff, Nat.reduceLT, Nat.reduceAdd, Nat.reduceMul, Nat.reduceSub, ↓reduceIte, reduceCtorEq, Nat.reduceLeDiff, Nat.reduceSubDiff, Nat.reduceBEq]) | (refine callY_new (indexFunc1_ok List.nil _ _ _ (by simp) fun x => wv_ok x v) rfl ?_ <;> try simp (disch := first | omega | decide +kernel) only [el_ints, el_intss, el_steps, wrap_of, Int.toNat_natCast, toNat_pred, Int.toNat_zero, Nat.sub_zero, List.drop_zero, ← List.map_take, ← List.map_drop, go_sem, Nat.reduceEqDiff, Nat.reduceLT, Nat.reduceAdd, Nat.reduceMul, Nat.reduceSub, ↓reduceIte, reduceCtorEq, Nat.reduceLeDiff, Nat.reduceSubDiff, Nat.reduceBEq]) | (refine hE _ _ ret_ne ?_ <;> try simp (disch := first | omega | decide +kernel) only [el_ints, el_intss, el_steps, wrap_of, Int.toNat_natCast, toNat_pred, Int.toNat_zero, Nat.sub_zero, List.drop_zero, ← List.map_take, ← List.map_drop, go_sem, Nat.reduceEqDiff, Nat.reduceLT, Nat.reduceAdd, Nat.reduceMul, Nat.reduceSub, ↓reduceIte, reduceCtorEq, Nat.reduceLeDiff, Nat.reduceSubDiff, Nat.reduceBEq]) | (refine hE _ _ exit_ne ?_ <;> try simp (disch := first | omega | decide +kernel) only [el_ints, el_intss, el_steps, wrap_of, Int.toNat_natCast, toNat_pred, Int.toNat_zero, Nat.sub_zero, List.drop_zero, ← List.map_take, ← List.map_drop, go_sem, Nat.reduceEqDiff, Nat.reduceLT, Nat.reduceAdd, Nat.reduceMul, Nat.reduceSub, ↓reduceIte, reduceCtorEq, Nat.reduceLeDiff, Nat.reduceSubDiff, Nat.reduceBEq]) | (refine hN _ ?_ ?_ (Wk.auto (by simp [extraK, lk, killL, St.kill, wipeO, wipeS, AV.has, AV.hasL, AO.wipe, List.map_set, updSt, insL, dropS, ins]) (by simp [extraK, lk, killL, St.kill, wipeO, wipeS, AV.has, AV.hasL, AO.wipe, List.map_set, updSt, insL, dropS, ins]))) | (with_reducible refine And.intro ?_ ?_) | (with_reducible omega) | (exact ok_ints) | (exact cells_ints) | (exact no_mem) | (with_reducible exact plain_ints) | (refine le_maxLen ?_; omega) | (refine List.forall_mem_cons.2 ⟨?_, ?_⟩) | (simp only [go_sem, List.length_cons, List.length_nil, Nat.reduceAdd, Nat.reduceLT, Nat.zero_lt_succ, and_self, List.mem_cons, List.not_mem_nil, or_false, forall_eq]; done)))
  · exact retM_sl 0 rfl rfl no_mem
  · exact absurd rfl h'
theorem delete_ok (xs : List Int) (v : Int) (hx : xs.length ≤ 4294967296) : CtrM Try.prog 147 [.sl 0, .d (.fn (.func 201) [] [.ptr (.int .i64 v)])] [(0, .arr 3 1 (xs.map (.int .i64)))] [] false (.sl 0)
    [(0, .arr 3 1 ((xs.filter fun l => !(mI l == v)).map (.int .i64)))] := by
  have hle := List.length_filter_le (fun l => !(mI l == v)) xs
  have eg : ∀ args w, (callFunc 201 args).run Try.prog w = .ok (.enter 201 args) w := enters_of Try.func201 (by kernel_rfl) rfl
  by_cases h0 : xs = []
  · subst h0
    exact delete_nil v
  refine CtrM.cutPlace ⟨_, Try.func147, by kernel_rfl, by kernel_rfl⟩ hle hx fun S β w rv hl hr hS => ?_
  obtain ⟨u, rfl⟩ : ∃ u, rv = [u] := by
    match rv, hl with
    | [a], _ => exact ⟨a, rfl⟩
  obtain ⟨B, o, hB, hu, hc⟩ : ∃ B o, S B ∧ u = .func (.func 201) #[] #[.pointer (some ⟨B, o, none⟩)] ∧ w.cell? ⟨B, o, none⟩ = some (.int .i64 v) := by
    have := hr 0 (by simp)
    simp only [List.getD_cons_zero] at this
    cases this with
    | d h => cases h with
      | fn h1 h2 h3 h4 =>
        rename_i vs us
        obtain rfl := List.eq_nil_of_length_eq_zero h1
        match us, h2 with
        | [p], _ =>
          have h5 := h4 0 (by simp)
          simp only [List.getD_cons_zero] at h5
          cases h5 with
          | @ptr _ b off cs hc hr' =>
            obtain ⟨h6, h7⟩ := hc 0 (by simp [D.cells])
            have h8 := hr' 0 (by simp [D.cells])
            simp only [D.cells, List.getD_cons_zero] at h8
            generalize cs 0 = c0 at *
            cases h8
            exact ⟨b, off, h6, rfl, h7⟩
  subst hu
  refine ⟨fun h => absurd h h0, fun g cap hβ hH hg hcap => ?_⟩
  have hBg : B ≠ g := fun e => hS B hB (by rw [hβ, e]; rfl)
  have hBl : B < w.heap.size := cell_lt hc
  have h := AnyE.slices_DeleteFunc Try.layD (Value.int .i64) (fun _ => rfl) (fun l => mI l == v) 201 #[.pointer (some ⟨B, o, none⟩)] eg 0 (by intro w; rfl) g 0 cap xs.toArray w
    (fun W x hb => Try.wv_w v x B o W ((hb.cell (p := ⟨B, o, none⟩) hBl).trans hc))
    (fun n os dk x _ => Try.wv_w v x B o _ (by
      unfold sortWorld
      rw [cell?_grow _ _ _ (by show B < (putRow _ _ _ _ _).heap.size; rw [Go.Sort.size_putRow]; exact hBl), cell?_putRow_other _ _ g _ _ _ (Or.inl hBg)]
      exact hc)) hH (by simp; omega) (by simpa using hcap)
  simp only [List.size_toArray] at h
  refine Calls.mono h fun en w' ⟨he, q, hw⟩ => ?_
  refine ⟨he, q, (xs.filter fun l => !(mI l == v)) ++ List.replicate (xs.length - (xs.filter fun l => !(mI l == v)).length) 0, #[], ?_, ?_, ?_, ?_⟩
  · simp; omega
  · simp
  · simp
  · rw [hw]; unfold sortWorld; rw [grow_empty]
theorem withoutVar_ok (c : List Int) (v : Int) (hl : c.length ≤ 4294967296) : Ctr Try.prog 172 [.ints c, .int .i64 v] false (.sl 0) [(0, .arr 3 1 ((c.filter fun l => !(mI l == v)).map (.int .i64)))] := by
  refine Ctr.of (n := 9) (rs := [.tmp 4]) Try.func172 rfl rfl Try.ntmps172 rfl rfl (by kernel_rfl) Try.checked.mixed ?_
  simp (disch := first | omega | decide +kernel) only [D.ints, go_sem, Nat.reduceEqDiff, Nat.reduceLT, Nat.reduceAdd, Nat.reduceMul, Nat.reduceSub, ↓reduceIte, reduceCtorEq, Nat.reduceLeDiff, Nat.reduceSubDiff, Nat.reduceBEq]
  (repeat' (first | (refine gsel_split (fun h => ?_) (fun h => ?_) <;> (have h' := h) <;> (try simp only [decide_eq_true_eq, decide_eq_false_iff_not, Bool.not_eq_true', Bool.not_eq_false', bne_iff_ne, ne_eq, beq_iff_eq, bne_eq_false_iff_eq, beq_eq_false_iff_ne, Int.ofNat_lt, Int.ofNat_le, Int.not_lt, Int.not_le, Decidable.not_not, Bool.and_eq_true, Bool.or_eq_true, Bool.or_eq_false_iff, gt_iff_lt, ge_iff_le] at h') <;> simp (disch := first | omega | decide +kernel) only [h, el_ints, el_intss, el_steps, wrap_of, Int.toNat_natCast, toNat_pred, Int.toNat_zero, Nat.sub_zero, List.drop_zero, ← List.map_take, ← List.map_drop, go_sem, Nat.reduceEqDiff, Nat.reduceLT, Nat.reduceAdd, Nat.reduceMul, Nat.reduceSub, ↓reduceIte, reduceCtorEq, Nat.reduceLeDiff, Nat.reduceSubDiff, Nat.reduceBEq] <;> clear h) | (refine callX_new (clone_ok c hl) rfl (by decide) ?_ <;> try simp (disch := first | omega | decide +kernel) only [el_ints, el_intss, el_steps, wrap_of, Int.toNat_natCast, toNat_pred, Int.toNat_zero, Nat.sub_zero, List.drop_zero, ← List.map_take, ← List.map_drop, go_sem, Nat.reduceEqDiff, Nat.reduceLT, Nat.reduceAdd, Nat.reduceMul, Nat.reduceSub, ↓reduceIte, reduceCtorEq, Nat.reduceLeDiff, Nat.reduceSubDiff, Nat.reduceBEq]) | (refine callY_new (clone_ok c hl) rfl ?_ <;> try simp (disch := first | omega | decide +kernel) only [el_ints, el_intss, el_steps, wrap_of, Int.toNat_natCast, toNat_pred, Int.toNat_zero, Nat.sub_zero, List.drop_zero, ← List.map_take, ← List.map_drop, go_sem, Nat.reduceEqDiff, Nat.reduceLT, Nat.reduceAdd, Nat.reduceMul, Nat.reduceSub, ↓reduceIte, reduceCtorEq, Nat.reduceLeDiff, Nat.reduceSubDiff, Nat.reduceBEq]) | (refine hE _ _ ret_ne ?_ <;> try simp (disch := first | omega | decide +kernel) only [el_ints, el_intss, el_steps, wrap_of, Int.toNat_natCast, toNat_pred, Int.toNat_zero, Nat.sub_zero, List.drop_zero, ← List.map_take, ← List.map_drop, go_sem, Nat.reduceEqDiff, Nat.reduceLT, Nat.reduceAdd, Nat.reduceMul, Nat.reduceSub, ↓reduceIte, reduceCtorEq, Nat.reduceLeDiff, Nat.reduceSubDiff, Nat.reduceBEq]) | (refine hE _ _ exit_ne ?_ <;> try simp (disch := first | omega | decide +kernel) only [el_ints, el_intss, el_steps, wrap_of, Int.toNat_natCast, toNat_pred, Int.toNat_zero, Nat.sub_zero, List.drop_zero, ← List.map_take, ← List.map_drop, go_sem, Nat.reduceEqDiff, Nat.reduceLT, Nat.reduceAdd, Nat.reduceMul, Nat.reduceSub, ↓reduceIte, reduceCtorEq, Nat.reduceLeDiff, Nat.reduceSubDiff, Nat.reduceBEq]) | (refine hN _ ?_ ?_ (Wk.auto (by simp [extraK, lk, killL, St.kill, wipeO, wipeS, AV.has, AV.hasL, AO.wipe, List.map_set, updSt, insL, dropS, ins]) (by simp [extraK, lk, killL, St.kill, wipeO, wipeS, AV.has, AV.hasL, AO.wipe, List.map_set, updSt, insL, dropS, ins]))) | (with_reducible refine And.intro ?_ ?_) | (with_reducible omega) | (exact ok_ints) | (exact cells_ints) | (exact no_mem) | (with_reducible exact plain_ints) | (refine le_maxLen ?_; omega) | (refine List.forall_mem_cons.2 ⟨?_, ?_⟩) | (simp only [go_sem, List.length_cons, List.length_nil, Nat.reduceAdd, Nat.reduceLT, Nat.zero_lt_succ, and_self, List.mem_cons, List.not_mem_nil, or_false, forall_eq]; done)))
  refine callX_mut [700000] [900000] [700000, 900000] (delete_ok c v hl) ⟨.inl rfl, .inr ⟨rfl, _, rfl, rfl⟩, trivial⟩ ⟨rfl, trivial⟩ rfl (by simp [dstB]) ?_
  simp (disch := first | omega | decide +kernel) only [go_sem, Nat.reduceEqDiff, Nat.reduceLT, Nat.reduceAdd, Nat.reduceMul, Nat.reduceSub, ↓reduceIte, reduceCtorEq, Nat.reduceLeDiff, Nat.reduceSubDiff, Nat.reduceBEq]
  exact ret_sl 900000 rfl rfl plain_ints
end Abs.Y
