/- What functions of this program compute, as contracts over plain data, with what the proofs need of them. No condition. -/
import Derived.Test.YticigmfmodhfdaaV16
set_option linter.all false
namespace Abs.Y
open Go Go.Proofs Abs
set_option maxRecDepth 100000

/-! ### The degree of a certificate -/
def degC (cs : List (List Int)) (list : List (List (Int × Int))) (k : Nat) : Int :=
  (List.range k).foldl (fun d i => if list.getD i [] = [] then d else max d (degT (list.getD i []) + ((cs.getD i []).length : Int))) 0
theorem degC_succ (cs : List (List Int)) (list : List (List (Int × Int))) (k : Nat) :
    degC cs list (k + 1) = if list.getD k [] = [] then degC cs list k else max (degC cs list k) (degT (list.getD k []) + ((cs.getD k []).length : Int)) := by
  rw [degC, List.range_succ, List.foldl_append]; rfl
def certB (p v : Int) (cs : List (List Int)) (list : List (List (Int × Int))) : Bool := goodL p v cs list && decide (sumC p v.toNat cs list list.length = monoD v.toNat 0)
def certV (p v : Int) (cs : List (List Int)) (list : List (List (Int × Int))) : Int := if certB p v cs list then degC cs list list.length else 0
theorem goodL_of {p v : Int} {cs : List (List Int)} {list : List (List (Int × Int))} (h : goodL p v cs list = true) :
    okCnf v cs = true ∧ primeB p v = true ∧ list.length = cs.length ∧ ∀ j, j < list.length → isT p (2 ^ v.toNat) (list.getD j []) = true := by
  simp only [goodL, Bool.and_eq_true, decide_eq_true_eq, List.all_eq_true] at h
  exact ⟨h.1.1.1, h.1.1.2, h.1.2, fun j hj => h.2 _ (getD_mem (z := ([] : List (Int × Int))) hj)⟩
theorem degC_bd {cs : List (List Int)} {list : List (List (Int × Int))} (hc : ∀ j, (cs.getD j []).length ≤ 1048576) : ∀ k, 0 ≤ degC cs list k ∧ degC cs list k ≤ 1048582
  | 0 => ⟨by simp [degC], by simp [degC]⟩
  | k + 1 => by
    have h1 := degC_bd (list := list) hc k
    have h2 := degT_bd (list.getD k [])
    have h3 := hc k
    rw [degC_succ]
    split <;> omega
set_option maxHeartbeats 8000000 in
theorem specCD_ok (p v : Int) (cs : List (List Int)) (list : List (List (Int × Int))) (hl : cs.length ≤ 4294967296) (hc : ∀ j, (cs.getD j []).length ≤ 1048576) (hll : list.length ≤ 4294967296) (hx : ∀ j, (list.getD j []).length ≤ 4294967296) :
    Ctr Try.prog 56 [.int .i64 p, .agg [.int .i64 v, .slice (cs.map D.ints)], .slice (list.map D.tms)] false (.tup [.d (.int .i64 (certV p v cs list)), .d (.bool (certB p v cs list))]) [] := by
  have hc' : ∀ j, (cs.getD j []).length ≤ 4294967296 := fun j => by have := hc j; omega
  have c1 := l19List_ok p v cs list hl hc' hll hx
  unfold certV certB
  cases hg : goodL p v cs list with
  | false =>
    rw [hg] at c1
    simp only [Bool.false_and, Bool.false_eq_true, if_false]
    refine Ctr.of (n := 50) (rs := [.tmp 6, .tmp 7]) Try.func56 rfl rfl Try.ntmps56 rfl rfl (by kernel_rfl) Try.checked.mixed ?_
    simp (disch := first | omega | decide +kernel) only [D.ints, go_sem, Nat.reduceEqDiff, Nat.reduceLT, Nat.reduceAdd, Nat.reduceMul, Nat.reduceSub, ↓reduceIte, reduceCtorEq, Nat.reduceLeDiff, Nat.reduceSubDiff, Nat.reduceBEq]
    (repeat' (first | (refine gsel_split (fun h => ?_) (fun h => ?_) <;> (have h' := h) <;> (try simp only [decide_eq_true_eq, decide_eq_false_iff_not, Bool.not_eq_true', Bool.not_eq_false', bne_iff_ne, ne_eq, beq_iff_eq, bne_eq_false_iff_eq, beq_eq_false_iff_ne, Int.ofNat_lt, Int.ofNat_le, Int.not_lt, Int.not_le, Decidable.not_not, Bool.and_eq_true, Bool.or_eq_true, Bool.or_eq_false_iff, gt_iff_lt, ge_iff_le] at h') <;> first | (exfalso; omega) | (simp (disch := first | omega | decide +kernel) only [h, D.ints, go_sem, Nat.reduceEqDiff, Nat.reduceLT, Nat.reduceAdd, Nat.reduceMul, Nat.reduceSub, ↓reduceIte, reduceCtorEq, Nat.reduceLeDiff, Nat.reduceSubDiff, Nat.reduceBEq] <;> clear h)) | ((first | refine callX_new (c1) rfl (by decide) ?_ | refine callY_new (c1) rfl ?_ | refine hE _ _ ret_ne ?_ | refine hE _ _ exit_ne ?_) <;> try simp (disch := first | omega | decide +kernel) only [D.ints, go_sem, Nat.reduceEqDiff, Nat.reduceLT, Nat.reduceAdd, Nat.reduceMul, Nat.reduceSub, ↓reduceIte, reduceCtorEq, Nat.reduceLeDiff, Nat.reduceSubDiff, Nat.reduceBEq]) | (refine hN _ ?_ ?_ Wk.kk) | (with_reducible refine And.intro ?_ ?_) | (with_reducible omega) | (exact ok_ints) | (exact cells_ints) | (exact no_mem) | (with_reducible exact plain_ints) | (refine le_maxLen ?_; omega) | (refine List.forall_mem_cons.2 ⟨?_, ?_⟩) | (simp only [go_sem, Nat.reduceAdd, Nat.reduceLT, List.mem_cons, List.not_mem_nil, forall_eq]; done)))
    all_goals (first | omega | trace_state)
  | true =>
    rw [hg] at c1
    obtain ⟨hok, hpr, hlen, hT⟩ := goodL_of hg
    obtain ⟨hp, hv⟩ := primeB_of hpr
    obtain ⟨u, rfl⟩ : ∃ u : Nat, v = u := ⟨v.toNat, by omega⟩
    rw [Int.toNat_natCast] at *
    have hu : u ≤ 6 := by omega
    have h2 := pow_le6 hu
    rw [Bool.true_and]
    have c2 := l19Sum_ok hp hu hok hlen hl hc' hx hT
    have hV := Vec.sumC hp.1 u cs list list.length
    have hone := one_iff hu hV.1
    have hsl := Tms.len hV.1 h2
    have c3 := l19One_ok (a := spT (sumC p u cs list list.length)) (by omega)
    rw [decide_eq_decide.2 hone] at c3
    generalize decide (sumC p u cs list list.length = monoD u 0) = B at *
    generalize spT (sumC p u cs list list.length) = S at *
    cases B with
    | false =>
      simp only [Bool.false_eq_true, if_false]
      refine Ctr.of (n := 50) (rs := [.tmp 6, .tmp 7]) Try.func56 rfl rfl Try.ntmps56 rfl rfl (by kernel_rfl) Try.checked.mixed ?_
      simp (disch := first | omega | decide +kernel) only [D.ints, go_sem, Nat.reduceEqDiff, Nat.reduceLT, Nat.reduceAdd, Nat.reduceMul, Nat.reduceSub, ↓reduceIte, reduceCtorEq, Nat.reduceLeDiff, Nat.reduceSubDiff, Nat.reduceBEq]
      (repeat' (first | (refine gsel_split (fun h => ?_) (fun h => ?_) <;> (have h' := h) <;> (try simp only [decide_eq_true_eq, decide_eq_false_iff_not, Bool.not_eq_true', Bool.not_eq_false', bne_iff_ne, ne_eq, beq_iff_eq, bne_eq_false_iff_eq, beq_eq_false_iff_ne, Int.ofNat_lt, Int.ofNat_le, Int.not_lt, Int.not_le, Decidable.not_not, Bool.and_eq_true, Bool.or_eq_true, Bool.or_eq_false_iff, gt_iff_lt, ge_iff_le] at h') <;> first | (exfalso; omega) | (simp (disch := first | omega | decide +kernel) only [h, D.ints, go_sem, Nat.reduceEqDiff, Nat.reduceLT, Nat.reduceAdd, Nat.reduceMul, Nat.reduceSub, ↓reduceIte, reduceCtorEq, Nat.reduceLeDiff, Nat.reduceSubDiff, Nat.reduceBEq] <;> clear h)) | ((first | refine callX_new (c1) rfl (by decide) ?_ | refine callY_new (c1) rfl ?_ | refine callX_shared (c2) rfl (by decide) ?_ | refine callY_shared (c2) rfl ?_ | refine callX_new (c3) rfl (by decide) ?_ | refine callY_new (c3) rfl ?_ | refine hE _ _ ret_ne ?_ | refine hE _ _ exit_ne ?_) <;> try simp (disch := first | omega | decide +kernel) only [D.ints, go_sem, Nat.reduceEqDiff, Nat.reduceLT, Nat.reduceAdd, Nat.reduceMul, Nat.reduceSub, ↓reduceIte, reduceCtorEq, Nat.reduceLeDiff, Nat.reduceSubDiff, Nat.reduceBEq]) | (refine hN _ ?_ ?_ Wk.kk) | (with_reducible refine And.intro ?_ ?_) | (with_reducible omega) | (exact ok_ints) | (exact cells_ints) | (exact no_mem) | (with_reducible exact plain_ints) | (refine le_maxLen ?_; omega) | (refine List.forall_mem_cons.2 ⟨?_, ?_⟩) | (simp only [go_sem, Nat.reduceAdd, Nat.reduceLT, List.mem_cons, List.not_mem_nil, forall_eq]; done)))
      all_goals (first | omega | trace_state)
    | true =>
      simp only [if_true]
      refine Ctr.of (n := 50) (rs := [.tmp 6, .tmp 7]) Try.func56 rfl rfl Try.ntmps56 rfl rfl (by kernel_rfl) Try.checked.mixed ?_
      simp (disch := first | omega | decide +kernel) only [D.ints, go_sem, Nat.reduceEqDiff, Nat.reduceLT, Nat.reduceAdd, Nat.reduceMul, Nat.reduceSub, ↓reduceIte, reduceCtorEq, Nat.reduceLeDiff, Nat.reduceSubDiff, Nat.reduceBEq]
      (repeat' (first | (refine gsel_split (fun h => ?_) (fun h => ?_) <;> (have h' := h) <;> (try simp only [decide_eq_true_eq, decide_eq_false_iff_not, Bool.not_eq_true', Bool.not_eq_false', bne_iff_ne, ne_eq, beq_iff_eq, bne_eq_false_iff_eq, beq_eq_false_iff_ne, Int.ofNat_lt, Int.ofNat_le, Int.not_lt, Int.not_le, Decidable.not_not, Bool.and_eq_true, Bool.or_eq_true, Bool.or_eq_false_iff, gt_iff_lt, ge_iff_le] at h') <;> first | (exfalso; omega) | (simp (disch := first | omega | decide +kernel) only [h, D.ints, go_sem, Nat.reduceEqDiff, Nat.reduceLT, Nat.reduceAdd, Nat.reduceMul, Nat.reduceSub, ↓reduceIte, reduceCtorEq, Nat.reduceLeDiff, Nat.reduceSubDiff, Nat.reduceBEq] <;> clear h)) | ((first | refine callX_new (c1) rfl (by decide) ?_ | refine callY_new (c1) rfl ?_ | refine callX_shared (c2) rfl (by decide) ?_ | refine callY_shared (c2) rfl ?_ | refine callX_new (c3) rfl (by decide) ?_ | refine callY_new (c3) rfl ?_ | refine hE _ _ ret_ne ?_ | refine hE _ _ exit_ne ?_) <;> try simp (disch := first | omega | decide +kernel) only [D.ints, go_sem, Nat.reduceEqDiff, Nat.reduceLT, Nat.reduceAdd, Nat.reduceMul, Nat.reduceSub, ↓reduceIte, reduceCtorEq, Nat.reduceLeDiff, Nat.reduceSubDiff, Nat.reduceBEq]) | (refine hN _ ?_ ?_ Wk.kk) | (with_reducible refine And.intro ?_ ?_) | (with_reducible omega) | (exact ok_ints) | (exact cells_ints) | (exact no_mem) | (with_reducible exact plain_ints) | (refine le_maxLen ?_; omega) | (refine List.forall_mem_cons.2 ⟨?_, ?_⟩) | (simp only [go_sem, Nat.reduceAdd, Nat.reduceLT, List.mem_cons, List.not_mem_nil, forall_eq]; done)))
      refine Ok.loopN [48, 47, 46, 45, 44, 43, 42, 41, 40, 39, 38, 37, 36, 35, 34, 33, 32, 31, 30, 29, 28, 27, 26, 25, 24, 23, 22, 21, 20, 19, 18, 17, 16, 15, 14, 13, 12, 11, 10, 9, 8, 5, 3, 1, 0] (fun i d => [(9, .d (.int .i64 (i : Nat))), (8, .d (.int .i64 d))]) (fun _ _ => []) list.length
        (fun i (d : Int) => d = degC cs list i) 0 rfl (Wk.kk) ?_
      rintro R i d hN hE hi hd
      have hdb := degC_bd (list := list) hc i
      rw [← hd] at hdb
      by_cases hlt : i < list.length
      · have hs := degC_succ cs list i
        rw [← hd] at hs
        have hei := el_tms hlt
        have c4 := l18Degree_ok h2 (hx i) (isT_tms (hT i hlt))
        have hdt := degT_bd (list.getD i [])
        have hci := hc i
        have c5 := l1Most_ok d (degT (list.getD i []) + ((cs.getD i []).length : Int))
        by_cases he : list.getD i [] = []
        · rw [if_pos he] at hs
          have hz : (list.getD i []).length = 0 := by rw [he]; rfl
          simp (disch := first | omega | decide +kernel) only [hei, go_sem, Nat.reduceEqDiff, Nat.reduceLT, Nat.reduceAdd, Nat.reduceMul, Nat.reduceSub, ↓reduceIte, reduceCtorEq, Nat.reduceLeDiff, Nat.reduceSubDiff, Nat.reduceBEq]
          (repeat' (first | (refine gsel_split (fun h => ?_) (fun h => ?_) <;> (have h' := h) <;> (try simp only [decide_eq_true_eq, decide_eq_false_iff_not, Bool.not_eq_true', Bool.not_eq_false', bne_iff_ne, ne_eq, beq_iff_eq, bne_eq_false_iff_eq, beq_eq_false_iff_ne, Int.ofNat_lt, Int.ofNat_le, Int.not_lt, Int.not_le, Decidable.not_not, Bool.and_eq_true, Bool.or_eq_true, Bool.or_eq_false_iff, gt_iff_lt, ge_iff_le] at h') <;> first | (exfalso; omega) | (simp (disch := first | omega | decide +kernel) only [h, hei, D.ints, go_sem, Nat.reduceEqDiff, Nat.reduceLT, Nat.reduceAdd, Nat.reduceMul, Nat.reduceSub, ↓reduceIte, reduceCtorEq, Nat.reduceLeDiff, Nat.reduceSubDiff, Nat.reduceBEq] <;> clear h)) | ((first | refine callX_new (c4) rfl (by decide) ?_ | refine callY_new (c4) rfl ?_ | refine callX_new (c5) rfl (by decide) ?_ | refine callY_new (c5) rfl ?_ | refine hE _ _ ret_ne ?_ | refine hE _ _ exit_ne ?_) <;> try simp (disch := first | omega | decide +kernel) only [hei, D.ints, go_sem, Nat.reduceEqDiff, Nat.reduceLT, Nat.reduceAdd, Nat.reduceMul, Nat.reduceSub, ↓reduceIte, reduceCtorEq, Nat.reduceLeDiff, Nat.reduceSubDiff, Nat.reduceBEq]) | (refine hN _ ?_ ?_ Wk.kk) | (with_reducible refine And.intro ?_ ?_) | (with_reducible omega) | (exact ok_ints) | (exact cells_ints) | (exact no_mem) | (with_reducible exact plain_ints) | (refine le_maxLen ?_; omega) | (refine List.forall_mem_cons.2 ⟨?_, ?_⟩) | (simp only [go_sem, Nat.reduceAdd, Nat.reduceLT, List.mem_cons, List.not_mem_nil, forall_eq]; done)))
          all_goals (first | omega | (refine hN d _ hlt hs.symm (Wk.auto (by simp [extraK, lk, killL, St.kill, wipeO, wipeS, AV.has, AV.hasL, AO.wipe, List.map_set, updSt, insL, dropS, ins, ]) (by simp [extraK, lk, killL, St.kill, wipeO, wipeS, AV.has, AV.hasL, AO.wipe, List.map_set, updSt, insL, dropS, ins, ])); done) | trace_state)
        · rw [if_neg he] at hs
          have hz : 0 < (list.getD i []).length := List.length_pos_iff.2 he
          simp (disch := first | omega | decide +kernel) only [hei, go_sem, Nat.reduceEqDiff, Nat.reduceLT, Nat.reduceAdd, Nat.reduceMul, Nat.reduceSub, ↓reduceIte, reduceCtorEq, Nat.reduceLeDiff, Nat.reduceSubDiff, Nat.reduceBEq]
          (repeat' (first | (refine gsel_split (fun h => ?_) (fun h => ?_) <;> (have h' := h) <;> (try simp only [decide_eq_true_eq, decide_eq_false_iff_not, Bool.not_eq_true', Bool.not_eq_false', bne_iff_ne, ne_eq, beq_iff_eq, bne_eq_false_iff_eq, beq_eq_false_iff_ne, Int.ofNat_lt, Int.ofNat_le, Int.not_lt, Int.not_le, Decidable.not_not, Bool.and_eq_true, Bool.or_eq_true, Bool.or_eq_false_iff, gt_iff_lt, ge_iff_le] at h') <;> first | (exfalso; omega) | (simp (disch := first | omega | decide +kernel) only [h, hei, D.ints, go_sem, Nat.reduceEqDiff, Nat.reduceLT, Nat.reduceAdd, Nat.reduceMul, Nat.reduceSub, ↓reduceIte, reduceCtorEq, Nat.reduceLeDiff, Nat.reduceSubDiff, Nat.reduceBEq] <;> clear h)) | ((first | refine callX_new (c4) rfl (by decide) ?_ | refine callY_new (c4) rfl ?_ | refine callX_new (c5) rfl (by decide) ?_ | refine callY_new (c5) rfl ?_ | refine hE _ _ ret_ne ?_ | refine hE _ _ exit_ne ?_) <;> try simp (disch := first | omega | decide +kernel) only [hei, D.ints, go_sem, Nat.reduceEqDiff, Nat.reduceLT, Nat.reduceAdd, Nat.reduceMul, Nat.reduceSub, ↓reduceIte, reduceCtorEq, Nat.reduceLeDiff, Nat.reduceSubDiff, Nat.reduceBEq]) | (refine hN _ ?_ ?_ Wk.kk) | (with_reducible refine And.intro ?_ ?_) | (with_reducible omega) | (exact ok_ints) | (exact cells_ints) | (exact no_mem) | (with_reducible exact plain_ints) | (refine le_maxLen ?_; omega) | (refine List.forall_mem_cons.2 ⟨?_, ?_⟩) | (simp only [go_sem, Nat.reduceAdd, Nat.reduceLT, List.mem_cons, List.not_mem_nil, forall_eq]; done)))
          all_goals (first | omega | (refine hN _ _ hlt hs.symm (Wk.auto (by simp [extraK, lk, killL, St.kill, wipeO, wipeS, AV.has, AV.hasL, AO.wipe, List.map_set, updSt, insL, dropS, ins, ]) (by simp [extraK, lk, killL, St.kill, wipeO, wipeS, AV.has, AV.hasL, AO.wipe, List.map_set, updSt, insL, dropS, ins, ])); done) | trace_state)
      · obtain rfl : i = list.length := by omega
        rw [← hd] at hE
        simp (disch := first | omega | decide +kernel) only [go_sem, Nat.reduceEqDiff, Nat.reduceLT, Nat.reduceAdd, Nat.reduceMul, Nat.reduceSub, ↓reduceIte, reduceCtorEq, Nat.reduceLeDiff, Nat.reduceSubDiff, Nat.reduceBEq]
        (repeat' (first | (refine gsel_split (fun h => ?_) (fun h => ?_) <;> (have h' := h) <;> (try simp only [decide_eq_true_eq, decide_eq_false_iff_not, Bool.not_eq_true', Bool.not_eq_false', bne_iff_ne, ne_eq, beq_iff_eq, bne_eq_false_iff_eq, beq_eq_false_iff_ne, Int.ofNat_lt, Int.ofNat_le, Int.not_lt, Int.not_le, Decidable.not_not, Bool.and_eq_true, Bool.or_eq_true, Bool.or_eq_false_iff, gt_iff_lt, ge_iff_le] at h') <;> first | (exfalso; omega) | (simp (disch := first | omega | decide +kernel) only [h, go_sem, Nat.reduceEqDiff, Nat.reduceLT, Nat.reduceAdd, Nat.reduceMul, Nat.reduceSub, ↓reduceIte, reduceCtorEq, Nat.reduceLeDiff, Nat.reduceSubDiff, Nat.reduceBEq] <;> clear h)) | ((first | refine hE _ _ ret_ne ?_ | refine hE _ _ exit_ne ?_) <;> try simp (disch := first | omega | decide +kernel) only [go_sem, Nat.reduceEqDiff, Nat.reduceLT, Nat.reduceAdd, Nat.reduceMul, Nat.reduceSub, ↓reduceIte, reduceCtorEq, Nat.reduceLeDiff, Nat.reduceSubDiff, Nat.reduceBEq]) | (refine hN _ ?_ ?_ Wk.kk) | (with_reducible refine And.intro ?_ ?_) | (with_reducible omega) | (exact ok_ints) | (exact cells_ints) | (exact no_mem) | (with_reducible exact plain_ints) | (refine le_maxLen ?_; omega) | (refine List.forall_mem_cons.2 ⟨?_, ?_⟩) | (simp only [go_sem, Nat.reduceAdd, Nat.reduceLT, List.mem_cons, List.not_mem_nil, forall_eq]; done)))
        all_goals (first | omega | trace_state)
end Abs.Y

namespace Abs.Y
open Go Go.Proofs Abs
set_option maxRecDepth 100000

theorem foldl_congr_mem {α β : Type} {f g : α → β → α} : ∀ (r : List β) (a : α), (∀ a, ∀ x ∈ r, f a x = g a x) → r.foldl f a = r.foldl g a
  | [], _, _ => rfl
  | x :: r, a, h => by
    rw [List.foldl_cons, List.foldl_cons, h a x (by simp)]
    exact foldl_congr_mem r _ fun a y hy => h a y (by simp [hy])
theorem getD_mapz {α β : Type} (f : α → β) (z : α) (z' : β) (l : List α) {i : Nat} (h : i < l.length) : (l.map f).getD i z' = f (l.getD i z) := by
  simp only [List.getD_eq_getElem?_getD, List.getElem?_map, List.getElem?_eq_getElem h, Option.map_some, Option.getD_some]
theorem sumQ_eq (p : Int) (u : Nat) (cs : List (List Int)) (list : List (List (Int × Int))) (h : list.length = cs.length) :
    sumQ p u (list.map (dnT (2 ^ u))) (cs.map (clauseD p u)) = sumC p u cs list list.length := by
  rw [sumQ, sumC, List.length_map]
  refine foldl_congr_mem _ _ fun a i hi => ?_
  have := List.mem_range.1 hi
  rw [getD_mapz _ [] _ _ (by omega), getD_mapz _ [] _ _ (by omega)]
set_option maxHeartbeats 8000000 in
theorem implCD_ok (p v : Int) (cs : List (List Int)) (list : List (List (Int × Int))) (hl : cs.length ≤ 4294967296) (hc : ∀ j, (cs.getD j []).length ≤ 1048576) (hll : list.length ≤ 4294967296) (hx : ∀ j, (list.getD j []).length ≤ 4294967296) :
    Ctr Try.prog 58 [.int .i64 p, .agg [.int .i64 v, .slice (cs.map D.ints)], .slice (list.map D.tms)] false (.tup [.d (.int .i64 (certV p v cs list)), .d (.bool (certB p v cs list))]) [] := by
  have hc' : ∀ j, (cs.getD j []).length ≤ 4294967296 := fun j => by have := hc j; omega
  cases h0 : (primeB p v && okCnf v cs) && decide (list.length = cs.length) with
  | false =>
    have hg : goodL p v cs list = false := by rw [goodL, Bool.and_comm (okCnf v cs), h0, Bool.false_and]
    have c1 := Ctr.tupN (ys := [_, _, _]) (certBad_ok p v cs list h0 hl hc' hll)
    unfold certV certB
    rw [hg]
    simp only [Bool.false_and, Bool.false_eq_true, if_false]
    refine Ctr.of (n := 55) (rs := [.tmp 6, .tmp 7]) Try.func58 rfl rfl Try.ntmps58 rfl rfl (by kernel_rfl) Try.checked.mixed ?_
    simp (disch := first | omega | decide +kernel) only [D.ints, go_sem, Nat.reduceEqDiff, Nat.reduceLT, Nat.reduceAdd, Nat.reduceMul, Nat.reduceSub, ↓reduceIte, reduceCtorEq, Nat.reduceLeDiff, Nat.reduceSubDiff, Nat.reduceBEq]
    (repeat' (first | (refine gsel_split (fun h => ?_) (fun h => ?_) <;> (have h' := h) <;> (try simp only [decide_eq_true_eq, decide_eq_false_iff_not, Bool.not_eq_true', Bool.not_eq_false', bne_iff_ne, ne_eq, beq_iff_eq, bne_eq_false_iff_eq, beq_eq_false_iff_ne, Int.ofNat_lt, Int.ofNat_le, Int.not_lt, Int.not_le, Decidable.not_not, Bool.and_eq_true, Bool.or_eq_true, Bool.or_eq_false_iff, gt_iff_lt, ge_iff_le] at h') <;> first | (exfalso; omega) | (simp (disch := first | omega | decide +kernel) only [h, D.ints, go_sem, Nat.reduceEqDiff, Nat.reduceLT, Nat.reduceAdd, Nat.reduceMul, Nat.reduceSub, ↓reduceIte, reduceCtorEq, Nat.reduceLeDiff, Nat.reduceSubDiff, Nat.reduceBEq] <;> clear h)) | ((first | refine callX_shared (c1) rfl (by decide) ?_ | refine callY_shared (c1) rfl ?_ | refine hE _ _ ret_ne ?_ | refine hE _ _ exit_ne ?_) <;> try simp (disch := first | omega | decide +kernel) only [D.ints, go_sem, Nat.reduceEqDiff, Nat.reduceLT, Nat.reduceAdd, Nat.reduceMul, Nat.reduceSub, ↓reduceIte, reduceCtorEq, Nat.reduceLeDiff, Nat.reduceSubDiff, Nat.reduceBEq]) | (refine hN _ ?_ ?_ Wk.kk) | (with_reducible refine And.intro ?_ ?_) | (with_reducible omega) | (exact ok_ints) | (exact cells_ints) | (exact no_mem) | (with_reducible exact plain_ints) | (refine le_maxLen ?_; omega) | (refine List.forall_mem_cons.2 ⟨?_, ?_⟩) | (simp only [go_sem, Nat.reduceAdd, Nat.reduceLT, List.mem_cons, List.not_mem_nil, forall_eq]; done)))
    all_goals (first | omega | trace_state)
  | true =>
    have hg : goodL p v cs list = list.all (isT p (2 ^ v.toNat)) := by rw [goodL, Bool.and_comm (okCnf v cs), h0, Bool.true_and]
    simp only [Bool.and_eq_true, decide_eq_true_eq] at h0
    obtain ⟨⟨hpr, hok⟩, hlen⟩ := h0
    obtain ⟨hp, hv⟩ := primeB_of hpr
    obtain ⟨u, rfl⟩ : ∃ u : Nat, v = u := ⟨v.toNat, by omega⟩
    have hu : u ≤ 6 := by omega
    have h2 := pow_le6 hu
    have c1 := Ctr.tupN (ys := [_, _, _]) (certOf_ok hp hu hpr hok hlen hl hc' hx)
    unfold certV certB
    cases hG : list.all (isT p (2 ^ u)) with
    | false =>
      rw [Int.toNat_natCast, hG] at hg
      rw [hG] at c1
      rw [hg]
      simp only [Bool.false_and, Bool.false_eq_true, if_false] at c1 ⊢
      refine Ctr.of (n := 55) (rs := [.tmp 6, .tmp 7]) Try.func58 rfl rfl Try.ntmps58 rfl rfl (by kernel_rfl) Try.checked.mixed ?_
      simp (disch := first | omega | decide +kernel) only [D.ints, go_sem, Nat.reduceEqDiff, Nat.reduceLT, Nat.reduceAdd, Nat.reduceMul, Nat.reduceSub, ↓reduceIte, reduceCtorEq, Nat.reduceLeDiff, Nat.reduceSubDiff, Nat.reduceBEq]
      (repeat' (first | (refine gsel_split (fun h => ?_) (fun h => ?_) <;> (have h' := h) <;> (try simp only [decide_eq_true_eq, decide_eq_false_iff_not, Bool.not_eq_true', Bool.not_eq_false', bne_iff_ne, ne_eq, beq_iff_eq, bne_eq_false_iff_eq, beq_eq_false_iff_ne, Int.ofNat_lt, Int.ofNat_le, Int.not_lt, Int.not_le, Decidable.not_not, Bool.and_eq_true, Bool.or_eq_true, Bool.or_eq_false_iff, gt_iff_lt, ge_iff_le] at h') <;> first | (exfalso; omega) | (simp (disch := first | omega | decide +kernel) only [h, D.ints, go_sem, Nat.reduceEqDiff, Nat.reduceLT, Nat.reduceAdd, Nat.reduceMul, Nat.reduceSub, ↓reduceIte, reduceCtorEq, Nat.reduceLeDiff, Nat.reduceSubDiff, Nat.reduceBEq] <;> clear h)) | ((first | refine callX_shared (c1) rfl (by decide) ?_ | refine callY_shared (c1) rfl ?_ | refine hE _ _ ret_ne ?_ | refine hE _ _ exit_ne ?_) <;> try simp (disch := first | omega | decide +kernel) only [D.ints, go_sem, Nat.reduceEqDiff, Nat.reduceLT, Nat.reduceAdd, Nat.reduceMul, Nat.reduceSub, ↓reduceIte, reduceCtorEq, Nat.reduceLeDiff, Nat.reduceSubDiff, Nat.reduceBEq]) | (refine hN _ ?_ ?_ Wk.kk) | (with_reducible refine And.intro ?_ ?_) | (with_reducible omega) | (exact ok_ints) | (exact cells_ints) | (exact no_mem) | (with_reducible exact plain_ints) | (refine le_maxLen ?_; omega) | (refine List.forall_mem_cons.2 ⟨?_, ?_⟩) | (simp only [go_sem, Nat.reduceAdd, Nat.reduceLT, List.mem_cons, List.not_mem_nil, forall_eq]; done)))
      all_goals (first | omega | trace_state)
    | true =>
      rw [Int.toNat_natCast, hG] at hg
      rw [hG] at c1
      obtain ⟨_, _, _, hT⟩ := goodL_of hg
      rw [Int.toNat_natCast] at hT
      rw [hg, Int.toNat_natCast]
      simp only [Bool.true_and, if_true] at c1 ⊢
      have hgl : (list.map (dnT (2 ^ u))).length = list.length := by simp
      have hql : (cs.map (clauseD p u)).length = (list.map (dnT (2 ^ u))).length := by simp [hlen]
      have hgv : ∀ x ∈ list.map (dnT (2 ^ u)), Vec p (2 ^ u) x := fun x hx => by
        obtain ⟨a, ha, rfl⟩ := List.mem_map.1 hx
        obtain ⟨j, hj, rfl⟩ := mem_getD [] ha
        exact Vec.dn (by omega) (isT_tms (hT j hj))
      have hqv : ∀ x ∈ cs.map (clauseD p u), Vec p (2 ^ u) x := fun x hx => by
        obtain ⟨a, ha, rfl⟩ := List.mem_map.1 hx
        exact Vec.clause hp.1 u a
      have hgi : ∀ i, i < list.length → (list.map (dnT (2 ^ u))).getD i [] = dnT (2 ^ u) (list.getD i []) := fun i hi => getD_mapz _ [] _ _ hi
      have c2 := sum_ok hp hu (cs := cs) (by omega) hql hgv hqv
      rw [sumQ_eq p u cs list hlen] at c2
      have hV := Vec.sumC hp.1 u cs list list.length
      have c3 := isOne_ok hp hu (cs := cs) (q := cs.map (clauseD p u)) hV.1
      generalize list.map (dnT (2 ^ u)) = g at *
      generalize (D.alg p u cs (cs.map (clauseD p u))).ptr = A at *
      generalize decide (sumC p u cs list list.length = monoD u 0) = B at *
      generalize sumC p u cs list list.length = S at *
      cases B with
      | false =>
        simp only [Bool.false_eq_true, if_false]
        refine Ctr.of (n := 55) (rs := [.tmp 6, .tmp 7]) Try.func58 rfl rfl Try.ntmps58 rfl rfl (by kernel_rfl) Try.checked.mixed ?_
        simp (disch := first | omega | decide +kernel) only [D.ints, go_sem, Nat.reduceEqDiff, Nat.reduceLT, Nat.reduceAdd, Nat.reduceMul, Nat.reduceSub, ↓reduceIte, reduceCtorEq, Nat.reduceLeDiff, Nat.reduceSubDiff, Nat.reduceBEq]
        (repeat' (first | (refine gsel_split (fun h => ?_) (fun h => ?_) <;> (have h' := h) <;> (try simp only [decide_eq_true_eq, decide_eq_false_iff_not, Bool.not_eq_true', Bool.not_eq_false', bne_iff_ne, ne_eq, beq_iff_eq, bne_eq_false_iff_eq, beq_eq_false_iff_ne, Int.ofNat_lt, Int.ofNat_le, Int.not_lt, Int.not_le, Decidable.not_not, Bool.and_eq_true, Bool.or_eq_true, Bool.or_eq_false_iff, gt_iff_lt, ge_iff_le] at h') <;> first | (exfalso; omega) | (simp (disch := first | omega | decide +kernel) only [h, D.ints, go_sem, Nat.reduceEqDiff, Nat.reduceLT, Nat.reduceAdd, Nat.reduceMul, Nat.reduceSub, ↓reduceIte, reduceCtorEq, Nat.reduceLeDiff, Nat.reduceSubDiff, Nat.reduceBEq] <;> clear h)) | ((first | refine callX_shared (c1) rfl (by decide) ?_ | refine callY_shared (c1) rfl ?_ | refine callX_shared (c2) rfl (by decide) ?_ | refine callY_shared (c2) rfl ?_ | refine callX_new (c3) rfl (by decide) ?_ | refine callY_new (c3) rfl ?_ | refine hE _ _ ret_ne ?_ | refine hE _ _ exit_ne ?_) <;> try simp (disch := first | omega | decide +kernel) only [D.ints, go_sem, Nat.reduceEqDiff, Nat.reduceLT, Nat.reduceAdd, Nat.reduceMul, Nat.reduceSub, ↓reduceIte, reduceCtorEq, Nat.reduceLeDiff, Nat.reduceSubDiff, Nat.reduceBEq]) | (refine hN _ ?_ ?_ Wk.kk) | (with_reducible refine And.intro ?_ ?_) | (with_reducible omega) | (exact ok_ints) | (exact cells_ints) | (exact no_mem) | (with_reducible exact plain_ints) | (refine le_maxLen ?_; omega) | (refine List.forall_mem_cons.2 ⟨?_, ?_⟩) | (simp only [go_sem, Nat.reduceAdd, Nat.reduceLT, List.mem_cons, List.not_mem_nil, forall_eq]; done)))
        all_goals (first | omega | trace_state)
      | true =>
        simp only [if_true]
        refine Ctr.of (n := 55) (rs := [.tmp 6, .tmp 7]) Try.func58 rfl rfl Try.ntmps58 rfl rfl (by kernel_rfl) Try.checked.mixed ?_
        simp (disch := first | omega | decide +kernel) only [D.ints, go_sem, Nat.reduceEqDiff, Nat.reduceLT, Nat.reduceAdd, Nat.reduceMul, Nat.reduceSub, ↓reduceIte, reduceCtorEq, Nat.reduceLeDiff, Nat.reduceSubDiff, Nat.reduceBEq]
        (repeat' (first | (refine gsel_split (fun h => ?_) (fun h => ?_) <;> (have h' := h) <;> (try simp only [decide_eq_true_eq, decide_eq_false_iff_not, Bool.not_eq_true', Bool.not_eq_false', bne_iff_ne, ne_eq, beq_iff_eq, bne_eq_false_iff_eq, beq_eq_false_iff_ne, Int.ofNat_lt, Int.ofNat_le, Int.not_lt, Int.not_le, Decidable.not_not, Bool.and_eq_true, Bool.or_eq_true, Bool.or_eq_false_iff, gt_iff_lt, ge_iff_le] at h') <;> first | (exfalso; omega) | (simp (disch := first | omega | decide +kernel) only [h, D.ints, go_sem, Nat.reduceEqDiff, Nat.reduceLT, Nat.reduceAdd, Nat.reduceMul, Nat.reduceSub, ↓reduceIte, reduceCtorEq, Nat.reduceLeDiff, Nat.reduceSubDiff, Nat.reduceBEq] <;> clear h)) | ((first | refine callX_shared (c1) rfl (by decide) ?_ | refine callY_shared (c1) rfl ?_ | refine callX_shared (c2) rfl (by decide) ?_ | refine callY_shared (c2) rfl ?_ | refine callX_new (c3) rfl (by decide) ?_ | refine callY_new (c3) rfl ?_ | refine hE _ _ ret_ne ?_ | refine hE _ _ exit_ne ?_) <;> try simp (disch := first | omega | decide +kernel) only [D.ints, go_sem, Nat.reduceEqDiff, Nat.reduceLT, Nat.reduceAdd, Nat.reduceMul, Nat.reduceSub, ↓reduceIte, reduceCtorEq, Nat.reduceLeDiff, Nat.reduceSubDiff, Nat.reduceBEq]) | (refine hN _ ?_ ?_ Wk.kk) | (with_reducible refine And.intro ?_ ?_) | (with_reducible omega) | (exact ok_ints) | (exact cells_ints) | (exact no_mem) | (with_reducible exact plain_ints) | (refine le_maxLen ?_; omega) | (refine List.forall_mem_cons.2 ⟨?_, ?_⟩) | (simp only [go_sem, Nat.reduceAdd, Nat.reduceLT, List.mem_cons, List.not_mem_nil, forall_eq]; done)))
        refine Ok.loopN [53, 52, 51, 50, 49, 48, 47, 46, 45, 44, 43, 42, 41, 40, 39, 38, 37, 36, 35, 34, 31, 30, 29, 28, 27, 26, 25, 24, 23, 22, 21, 20, 19, 18, 17, 16, 15, 14, 13, 12, 11, 10, 9, 8, 5, 3, 2, 1, 0] (fun i d => [(34, .d (.int .i64 (i : Nat))), (11, .d (.int .i64 d))]) (fun _ _ => []) g.length
          (fun i (d : Int) => d = degC cs list i) 0 rfl (Wk.kk) ?_
        rintro R i d hN hE hi hd
        have hdb := degC_bd (list := list) hc i
        rw [← hd] at hdb
        by_cases hlt : i < g.length
        · have hs := degC_succ cs list i
          rw [← hd] at hs
          have hTi := hT i (by omega)
          have hgd := hgi i (by omega)
          have hgl2 : (g.getD i []).length = 2 ^ u := by rw [hgd, dnT_len]
          have hdg : degD (g.getD i []) = degT (list.getD i []) := by rw [hgd, ← deg_eq, sp_dn hTi]
          have c4 := isZero_ok (v := g.getD i []) (by omega)
          have c5 := degree_ok (v := g.getD i []) (by omega)
          rw [hdg] at c4 c5
          have hdt := degT_bd (list.getD i [])
          have hci := hc i
          by_cases he : list.getD i [] = []
          · rw [if_pos he] at hs
            have ht1 : degT (list.getD i []) < 0 := (degT_neg _).2 he
            rw [decide_eq_true ht1] at c4
            simp (disch := first | omega | decide +kernel) only [go_sem, Nat.reduceEqDiff, Nat.reduceLT, Nat.reduceAdd, Nat.reduceMul, Nat.reduceSub, ↓reduceIte, reduceCtorEq, Nat.reduceLeDiff, Nat.reduceSubDiff, Nat.reduceBEq]
            (repeat' (first | (refine gsel_split (fun h => ?_) (fun h => ?_) <;> (have h' := h) <;> (try simp only [decide_eq_true_eq, decide_eq_false_iff_not, Bool.not_eq_true', Bool.not_eq_false', bne_iff_ne, ne_eq, beq_iff_eq, bne_eq_false_iff_eq, beq_eq_false_iff_ne, Int.ofNat_lt, Int.ofNat_le, Int.not_lt, Int.not_le, Decidable.not_not, Bool.and_eq_true, Bool.or_eq_true, Bool.or_eq_false_iff, gt_iff_lt, ge_iff_le] at h') <;> first | (exfalso; omega) | (simp (disch := first | omega | decide +kernel) only [h, D.ints, go_sem, Nat.reduceEqDiff, Nat.reduceLT, Nat.reduceAdd, Nat.reduceMul, Nat.reduceSub, ↓reduceIte, reduceCtorEq, Nat.reduceLeDiff, Nat.reduceSubDiff, Nat.reduceBEq] <;> clear h)) | ((first | refine callX_new (c4) rfl (by decide) ?_ | refine callY_new (c4) rfl ?_ | refine callX_new (c5) rfl (by decide) ?_ | refine callY_new (c5) rfl ?_ | refine hE _ _ ret_ne ?_ | refine hE _ _ exit_ne ?_) <;> try simp (disch := first | omega | decide +kernel) only [D.ints, go_sem, Nat.reduceEqDiff, Nat.reduceLT, Nat.reduceAdd, Nat.reduceMul, Nat.reduceSub, ↓reduceIte, reduceCtorEq, Nat.reduceLeDiff, Nat.reduceSubDiff, Nat.reduceBEq]) | (refine hN _ ?_ ?_ Wk.kk) | (with_reducible refine And.intro ?_ ?_) | (with_reducible omega) | (exact ok_ints) | (exact cells_ints) | (exact no_mem) | (with_reducible exact plain_ints) | (refine le_maxLen ?_; omega) | (refine List.forall_mem_cons.2 ⟨?_, ?_⟩) | (simp only [go_sem, Nat.reduceAdd, Nat.reduceLT, List.mem_cons, List.not_mem_nil, forall_eq]; done)))
            all_goals (first | omega | (refine hN d _ hlt hs.symm (Wk.auto (by simp [extraK, lk, killL, St.kill, wipeO, wipeS, AV.has, AV.hasL, AO.wipe, List.map_set, updSt, insL, dropS, ins, ]) (by simp [extraK, lk, killL, St.kill, wipeO, wipeS, AV.has, AV.hasL, AO.wipe, List.map_set, updSt, insL, dropS, ins, ])); done) | trace_state)
          · rw [if_neg he] at hs
            have ht0 : ¬ degT (list.getD i []) < 0 := fun h => he ((degT_neg _).1 h)
            rw [decide_eq_false ht0] at c4
            generalize degT (list.getD i []) = t at *
            by_cases hdc : d < t + ((cs.getD i []).length : Int)
            · rw [show max d (t + ((cs.getD i []).length : Int)) = t + ((cs.getD i []).length : Int) by omega] at hs
              simp (disch := first | omega | decide +kernel) only [if_pos hdc, go_sem, Nat.reduceEqDiff, Nat.reduceLT, Nat.reduceAdd, Nat.reduceMul, Nat.reduceSub, ↓reduceIte, reduceCtorEq, Nat.reduceLeDiff, Nat.reduceSubDiff, Nat.reduceBEq]
              (repeat' (first | (refine gsel_split (fun h => ?_) (fun h => ?_) <;> (have h' := h) <;> (try simp only [decide_eq_true_eq, decide_eq_false_iff_not, Bool.not_eq_true', Bool.not_eq_false', bne_iff_ne, ne_eq, beq_iff_eq, bne_eq_false_iff_eq, beq_eq_false_iff_ne, Int.ofNat_lt, Int.ofNat_le, Int.not_lt, Int.not_le, Decidable.not_not, Bool.and_eq_true, Bool.or_eq_true, Bool.or_eq_false_iff, gt_iff_lt, ge_iff_le] at h') <;> first | (exfalso; omega) | (simp (disch := first | omega | decide +kernel) only [h, D.ints, if_pos hdc, go_sem, Nat.reduceEqDiff, Nat.reduceLT, Nat.reduceAdd, Nat.reduceMul, Nat.reduceSub, ↓reduceIte, reduceCtorEq, Nat.reduceLeDiff, Nat.reduceSubDiff, Nat.reduceBEq] <;> clear h)) | ((first | refine callX_new (c4) rfl (by decide) ?_ | refine callY_new (c4) rfl ?_ | refine callX_new (c5) rfl (by decide) ?_ | refine callY_new (c5) rfl ?_ | refine hE _ _ ret_ne ?_ | refine hE _ _ exit_ne ?_) <;> try simp (disch := first | omega | decide +kernel) only [D.ints, if_pos hdc, go_sem, Nat.reduceEqDiff, Nat.reduceLT, Nat.reduceAdd, Nat.reduceMul, Nat.reduceSub, ↓reduceIte, reduceCtorEq, Nat.reduceLeDiff, Nat.reduceSubDiff, Nat.reduceBEq]) | (refine hN _ ?_ ?_ Wk.kk) | (with_reducible refine And.intro ?_ ?_) | (with_reducible omega) | (exact ok_ints) | (exact cells_ints) | (exact no_mem) | (with_reducible exact plain_ints) | (refine le_maxLen ?_; omega) | (refine List.forall_mem_cons.2 ⟨?_, ?_⟩) | (simp only [go_sem, Nat.reduceAdd, Nat.reduceLT, List.mem_cons, List.not_mem_nil, forall_eq]; done)))
              all_goals (first | omega | (refine hN (t + ((cs.getD i []).length : Int)) _ hlt hs.symm (Wk.auto (by simp [extraK, lk, killL, St.kill, wipeO, wipeS, AV.has, AV.hasL, AO.wipe, List.map_set, updSt, insL, dropS, ins, if_pos hdc]) (by simp [extraK, lk, killL, St.kill, wipeO, wipeS, AV.has, AV.hasL, AO.wipe, List.map_set, updSt, insL, dropS, ins, if_pos hdc])); done) | trace_state)
            · rw [show max d (t + ((cs.getD i []).length : Int)) = d by omega] at hs
              simp (disch := first | omega | decide +kernel) only [if_neg hdc, go_sem, Nat.reduceEqDiff, Nat.reduceLT, Nat.reduceAdd, Nat.reduceMul, Nat.reduceSub, ↓reduceIte, reduceCtorEq, Nat.reduceLeDiff, Nat.reduceSubDiff, Nat.reduceBEq]
              (repeat' (first | (refine gsel_split (fun h => ?_) (fun h => ?_) <;> (have h' := h) <;> (try simp only [decide_eq_true_eq, decide_eq_false_iff_not, Bool.not_eq_true', Bool.not_eq_false', bne_iff_ne, ne_eq, beq_iff_eq, bne_eq_false_iff_eq, beq_eq_false_iff_ne, Int.ofNat_lt, Int.ofNat_le, Int.not_lt, Int.not_le, Decidable.not_not, Bool.and_eq_true, Bool.or_eq_true, Bool.or_eq_false_iff, gt_iff_lt, ge_iff_le] at h') <;> first | (exfalso; omega) | (simp (disch := first | omega | decide +kernel) only [h, D.ints, if_neg hdc, go_sem, Nat.reduceEqDiff, Nat.reduceLT, Nat.reduceAdd, Nat.reduceMul, Nat.reduceSub, ↓reduceIte, reduceCtorEq, Nat.reduceLeDiff, Nat.reduceSubDiff, Nat.reduceBEq] <;> clear h)) | ((first | refine callX_new (c4) rfl (by decide) ?_ | refine callY_new (c4) rfl ?_ | refine callX_new (c5) rfl (by decide) ?_ | refine callY_new (c5) rfl ?_ | refine hE _ _ ret_ne ?_ | refine hE _ _ exit_ne ?_) <;> try simp (disch := first | omega | decide +kernel) only [D.ints, if_neg hdc, go_sem, Nat.reduceEqDiff, Nat.reduceLT, Nat.reduceAdd, Nat.reduceMul, Nat.reduceSub, ↓reduceIte, reduceCtorEq, Nat.reduceLeDiff, Nat.reduceSubDiff, Nat.reduceBEq]) | (refine hN _ ?_ ?_ Wk.kk) | (with_reducible refine And.intro ?_ ?_) | (with_reducible omega) | (exact ok_ints) | (exact cells_ints) | (exact no_mem) | (with_reducible exact plain_ints) | (refine le_maxLen ?_; omega) | (refine List.forall_mem_cons.2 ⟨?_, ?_⟩) | (simp only [go_sem, Nat.reduceAdd, Nat.reduceLT, List.mem_cons, List.not_mem_nil, forall_eq]; done)))
              all_goals (first | omega | (refine hN d _ hlt hs.symm (Wk.auto (by simp [extraK, lk, killL, St.kill, wipeO, wipeS, AV.has, AV.hasL, AO.wipe, List.map_set, updSt, insL, dropS, ins, if_neg hdc]) (by simp [extraK, lk, killL, St.kill, wipeO, wipeS, AV.has, AV.hasL, AO.wipe, List.map_set, updSt, insL, dropS, ins, if_neg hdc])); done) | trace_state)
        · obtain rfl : i = g.length := by omega
          rw [hgl] at hd
          rw [← hd] at hE
          simp (disch := first | omega | decide +kernel) only [go_sem, Nat.reduceEqDiff, Nat.reduceLT, Nat.reduceAdd, Nat.reduceMul, Nat.reduceSub, ↓reduceIte, reduceCtorEq, Nat.reduceLeDiff, Nat.reduceSubDiff, Nat.reduceBEq]
          (repeat' (first | (refine gsel_split (fun h => ?_) (fun h => ?_) <;> (have h' := h) <;> (try simp only [decide_eq_true_eq, decide_eq_false_iff_not, Bool.not_eq_true', Bool.not_eq_false', bne_iff_ne, ne_eq, beq_iff_eq, bne_eq_false_iff_eq, beq_eq_false_iff_ne, Int.ofNat_lt, Int.ofNat_le, Int.not_lt, Int.not_le, Decidable.not_not, Bool.and_eq_true, Bool.or_eq_true, Bool.or_eq_false_iff, gt_iff_lt, ge_iff_le] at h') <;> first | (exfalso; omega) | (simp (disch := first | omega | decide +kernel) only [h, go_sem, Nat.reduceEqDiff, Nat.reduceLT, Nat.reduceAdd, Nat.reduceMul, Nat.reduceSub, ↓reduceIte, reduceCtorEq, Nat.reduceLeDiff, Nat.reduceSubDiff, Nat.reduceBEq] <;> clear h)) | ((first | refine hE _ _ ret_ne ?_ | refine hE _ _ exit_ne ?_) <;> try simp (disch := first | omega | decide +kernel) only [go_sem, Nat.reduceEqDiff, Nat.reduceLT, Nat.reduceAdd, Nat.reduceMul, Nat.reduceSub, ↓reduceIte, reduceCtorEq, Nat.reduceLeDiff, Nat.reduceSubDiff, Nat.reduceBEq]) | (refine hN _ ?_ ?_ Wk.kk) | (with_reducible refine And.intro ?_ ?_) | (with_reducible omega) | (exact ok_ints) | (exact cells_ints) | (exact no_mem) | (with_reducible exact plain_ints) | (refine le_maxLen ?_; omega) | (refine List.forall_mem_cons.2 ⟨?_, ?_⟩) | (simp only [go_sem, Nat.reduceAdd, Nat.reduceLT, List.mem_cons, List.not_mem_nil, forall_eq]; done)))
          all_goals (first | omega | trace_state)
end Abs.Y
