/- What functions of this program compute, as contracts over plain data, with what the proofs need of them. No condition. -/
import Derived.Test.YtoppjihdipidiaaD12
import Derived.Test.YtoppjihdipidiaaM9a
import Derived.Test.YtoppjihdipidiaaV2
import Derived.Test.YtoppjihdipidiaaC2
set_option linter.all false
namespace Abs.Y
open Go Go.Proofs Abs
open Nat (reduceEqDiff reduceLT reduceAdd reduceMul reduceSub reduceLeDiff reduceSubDiff)
set_option maxRecDepth 100000

theorem barP_iff {p : Int} {u : Nat} {cs : List (List Int)} {d : Int} {list : List (List (Int × Int))} {R : List (List Int)} (hp : 1 < p) (hu : u ≤ 6) (hok : okBar p u cs d list = true) (hR : Ech p (2 ^ u) ldG R) (hS : SpEq p (2 ^ u) R (list.map (dnT (2 ^ u)))) :
    BarP p u cs d list ↔ Barr p u d cs (list.map (dnT (2 ^ u))) R := by
  unfold BarP
  rw [Int.toNat_natCast]
  constructor
  · rintro ⟨_, R', h1, h2, h3⟩
    exact (barr_eq hp hu h1 hR (h2.trans hS.symm)).1 h3
  · exact fun h => ⟨hok, R, hR, hS, h⟩
theorem sp_list {p : Int} {n : Nat} {list : List (List (Int × Int))} (h : ∀ j, j < list.length → isT p n (list.getD j []) = true) : list.map D.tms = (list.map (dnT n)).map D.sp := by
  rw [List.map_map]
  refine List.map_congr_left fun a ha => ?_
  obtain ⟨j, hj, rfl⟩ := mem_getD (z := ([] : List (Int × Int))) ha
  show D.tms _ = D.tms (spT (dnT n _))
  rw [sp_dn (h j hj)]
theorem vec_list {p : Int} {n : Nat} (hp : 0 < p) {list : List (List (Int × Int))} (h : ∀ j, j < list.length → isT p n (list.getD j []) = true) : AllV p n (list.map (dnT n)) := fun v hv => by
  obtain ⟨a, ha, rfl⟩ := List.mem_map.1 hv
  obtain ⟨j, hj, rfl⟩ := mem_getD (z := ([] : List (Int × Int))) ha
  exact Vec.dn hp (isT_tms (h j hj))
theorem specBar_ok (p v : Int) (cs : List (List Int)) (d : Int) (list : List (List (Int × Int))) (hcl : cs.length ≤ 1048576) (hc : ∀ j, (cs.getD j []).length ≤ 1048576) (hll : list.length ≤ 1048576) (hx : ∀ j, (list.getD j []).length ≤ 1048576) {t : Bool} (ht : t = true ↔ BarP p v cs d list) :
    Ctr Try.prog 21 [.int .i64 p, .agg [.int .i64 v, .slice (cs.map D.ints)], .int .i64 d, .slice (list.map D.tms)] false (.tup [.d (.bool t), .d (.bool (okBar p v cs d list))]) [] := by
  have c1 := l20Asked_ok p v cs (by omega) (fun j => by have := hc j; omega)
  have c2 := l20Degree_ok d
  have hf : okBar p v cs d list = false → t = false := fun h => bool_of ht fun h' => by have h9 := h'.1; rw [h] at h9; cases h9
  cases h1 : primeB p v && okCnf v cs with
  | false =>
    have e : okBar p v cs d list = false := by unfold okBar; rw [h1]; rfl
    rw [h1] at c1
    rw [e, hf e]
    refine Ctr.of (n := 45) (rs := [.tmp 8, .tmp 9]) Try.func21 rfl rfl Try.ntmps21 rfl rfl (by kernel_rfl) Try.checked.mixed ?_
    simp (disch := first | omega | decide +kernel) only [go_sem, reduceEqDiff, reduceLT, reduceAdd, reduceMul, reduceSub, ↓reduceIte, reduceCtorEq, reduceLeDiff, reduceSubDiff, Nat.reduceBEq]
    (repeat' (first | (refine gsel_split (fun h => ?_) (fun h => ?_) <;> (have h' := h) <;> (try simp only [decide_eq_true_eq, decide_eq_false_iff_not, Bool.not_eq_true', Bool.not_eq_false', bne_iff_ne, ne_eq, beq_iff_eq, bne_eq_false_iff_eq, beq_eq_false_iff_ne, Int.ofNat_lt, Int.ofNat_le, Int.not_lt, Int.not_le, Decidable.not_not, Bool.and_eq_true, Bool.or_eq_true, Bool.or_eq_false_iff, gt_iff_lt, ge_iff_le] at h') <;> first | (exfalso; omega) | (simp (disch := first | omega | decide +kernel) only [h, go_sem, reduceEqDiff, reduceLT, reduceAdd, reduceMul, reduceSub, ↓reduceIte, reduceCtorEq, reduceLeDiff, reduceSubDiff, Nat.reduceBEq] <;> clear h)) | ((first | refine callX_new (c1) rfl (by decide) ?_ | refine callY_new (c1) rfl ?_ | refine hE _ _ ret_ne ?_ | refine hE _ _ exit_ne ?_) <;> try simp (disch := first | omega | decide +kernel) only [go_sem, reduceEqDiff, reduceLT, reduceAdd, reduceMul, reduceSub, ↓reduceIte, reduceCtorEq, reduceLeDiff, reduceSubDiff, Nat.reduceBEq]) | (refine hN _ ?_ ?_ Wk.kk) | (with_reducible refine And.intro ?_ ?_) | (with_reducible omega) | (exact ok_ints) | (exact cells_ints) | (exact no_mem) | (with_reducible exact plain_ints) | (refine le_maxLen ?_; omega) | (refine List.forall_mem_cons.2 ⟨?_, ?_⟩) | (simp only [go_sem, Nat.reduceAdd, Nat.reduceLT, List.mem_cons, List.not_mem_nil, forall_eq]; done)))
    all_goals (first | omega | trace_state)
  | true =>
    rw [h1] at c1
    cases h2 : degB d with
    | false =>
      have e : okBar p v cs d list = false := by unfold okBar; rw [h1, h2]; rfl
      rw [h2] at c2
      rw [e, hf e]
      refine Ctr.of (n := 45) (rs := [.tmp 8, .tmp 9]) Try.func21 rfl rfl Try.ntmps21 rfl rfl (by kernel_rfl) Try.checked.mixed ?_
      simp (disch := first | omega | decide +kernel) only [go_sem, reduceEqDiff, reduceLT, reduceAdd, reduceMul, reduceSub, ↓reduceIte, reduceCtorEq, reduceLeDiff, reduceSubDiff, Nat.reduceBEq]
      (repeat' (first | (refine gsel_split (fun h => ?_) (fun h => ?_) <;> (have h' := h) <;> (try simp only [decide_eq_true_eq, decide_eq_false_iff_not, Bool.not_eq_true', Bool.not_eq_false', bne_iff_ne, ne_eq, beq_iff_eq, bne_eq_false_iff_eq, beq_eq_false_iff_ne, Int.ofNat_lt, Int.ofNat_le, Int.not_lt, Int.not_le, Decidable.not_not, Bool.and_eq_true, Bool.or_eq_true, Bool.or_eq_false_iff, gt_iff_lt, ge_iff_le] at h') <;> first | (exfalso; omega) | (simp (disch := first | omega | decide +kernel) only [h, go_sem, reduceEqDiff, reduceLT, reduceAdd, reduceMul, reduceSub, ↓reduceIte, reduceCtorEq, reduceLeDiff, reduceSubDiff, Nat.reduceBEq] <;> clear h)) | ((first | refine callX_new (c1) rfl (by decide) ?_ | refine callY_new (c1) rfl ?_ | refine callX_new (c2) rfl (by decide) ?_ | refine callY_new (c2) rfl ?_ | refine hE _ _ ret_ne ?_ | refine hE _ _ exit_ne ?_) <;> try simp (disch := first | omega | decide +kernel) only [go_sem, reduceEqDiff, reduceLT, reduceAdd, reduceMul, reduceSub, ↓reduceIte, reduceCtorEq, reduceLeDiff, reduceSubDiff, Nat.reduceBEq]) | (refine hN _ ?_ ?_ Wk.kk) | (with_reducible refine And.intro ?_ ?_) | (with_reducible omega) | (exact ok_ints) | (exact cells_ints) | (exact no_mem) | (with_reducible exact plain_ints) | (refine le_maxLen ?_; omega) | (refine List.forall_mem_cons.2 ⟨?_, ?_⟩) | (simp only [go_sem, Nat.reduceAdd, Nat.reduceLT, List.mem_cons, List.not_mem_nil, forall_eq]; done)))
      all_goals (first | omega | trace_state)
    | true =>
      rw [h2] at c2
      by_cases h3 : list.length ≤ 64
      · have hpo := h1
        rw [Bool.and_eq_true] at hpo
        obtain ⟨hp, hv⟩ := primeB_235 hpo.1
        obtain ⟨u, rfl⟩ : ∃ u : Nat, v = u := ⟨v.toNat, by omega⟩
        have hu : u ≤ 6 := by omega
        have hok : okBar p u cs d list = list.all (isT p (2 ^ u)) := by unfold okBar; rw [h1, h2, decide_eq_true h3, Int.toNat_natCast]; rfl
        have hd : 0 ≤ d ∧ d ≤ 6 := by simpa [degB] using h2
        refine Ctr.of (n := 45) (rs := [.tmp 8, .tmp 9]) Try.func21 rfl rfl Try.ntmps21 rfl rfl (by kernel_rfl) Try.checked.mixed ?_
        simp (disch := first | omega | decide +kernel) only [go_sem, reduceEqDiff, reduceLT, reduceAdd, reduceMul, reduceSub, ↓reduceIte, reduceCtorEq, reduceLeDiff, reduceSubDiff, Nat.reduceBEq]
        (repeat' (first | (refine gsel_split (fun h => ?_) (fun h => ?_) <;> (have h' := h) <;> (try simp only [decide_eq_true_eq, decide_eq_false_iff_not, Bool.not_eq_true', Bool.not_eq_false', bne_iff_ne, ne_eq, beq_iff_eq, bne_eq_false_iff_eq, beq_eq_false_iff_ne, Int.ofNat_lt, Int.ofNat_le, Int.not_lt, Int.not_le, Decidable.not_not, Bool.and_eq_true, Bool.or_eq_true, Bool.or_eq_false_iff, gt_iff_lt, ge_iff_le] at h') <;> first | (exfalso; omega) | (simp (disch := first | omega | decide +kernel) only [h, go_sem, reduceEqDiff, reduceLT, reduceAdd, reduceMul, reduceSub, ↓reduceIte, reduceCtorEq, reduceLeDiff, reduceSubDiff, Nat.reduceBEq] <;> clear h)) | ((first | refine callX_new (c1) rfl (by decide) ?_ | refine callY_new (c1) rfl ?_ | refine callX_new (c2) rfl (by decide) ?_ | refine callY_new (c2) rfl ?_ | refine hE _ _ ret_ne ?_ | refine hE _ _ exit_ne ?_) <;> try simp (disch := first | omega | decide +kernel) only [go_sem, reduceEqDiff, reduceLT, reduceAdd, reduceMul, reduceSub, ↓reduceIte, reduceCtorEq, reduceLeDiff, reduceSubDiff, Nat.reduceBEq]) | (refine hN _ ?_ ?_ Wk.kk) | (with_reducible refine And.intro ?_ ?_) | (with_reducible omega) | (exact ok_ints) | (exact cells_ints) | (exact no_mem) | (with_reducible exact plain_ints) | (refine le_maxLen ?_; omega) | (refine List.forall_mem_cons.2 ⟨?_, ?_⟩) | (simp only [go_sem, Nat.reduceAdd, Nat.reduceLT, List.mem_cons, List.not_mem_nil, forall_eq]; done)))
        all_goals (first | omega | skip)
        refine Ok.loopC [39, 38, 37, 36, 35, 34, 33, 32, 31, 30, 29, 28, 27, 26, 25, 24, 23, 22, 21, 20, 19, 18, 17, 16, 15, 14, 13, 12, 11, 10, 9, 8, 7, 6, 4, 1] (fun i => [(10, .d (.int .i64 (i : Nat)))]) list.length (fun i => ∀ j, j < i → isT p (2 ^ u) (list.getD j []) = true) (by simp) (Wk.kk) ?_
        intro R i hN hE hi hI
        by_cases hlt : i < list.length
        · have hei := el_tms hlt
          have hxi := hx i
          have c3 := l18Good_ok (p := p) (by omega) hu (a := list.getD i []) (by omega) hpo.1
          cases hT : isT p (2 ^ u) (list.getD i []) with
          | false =>
            have e : okBar p u cs d list = false := by rw [hok]; exact all_false (z := []) hlt hT
            rw [hT] at c3
            rw [e, hf e] at hE
            simp (disch := first | omega | decide +kernel) only [hei, go_sem, reduceEqDiff, reduceLT, reduceAdd, reduceMul, reduceSub, ↓reduceIte, reduceCtorEq, reduceLeDiff, reduceSubDiff, Nat.reduceBEq]
            (repeat' (first | (refine gsel_split (fun h => ?_) (fun h => ?_) <;> (have h' := h) <;> (try simp only [decide_eq_true_eq, decide_eq_false_iff_not, Bool.not_eq_true', Bool.not_eq_false', bne_iff_ne, ne_eq, beq_iff_eq, bne_eq_false_iff_eq, beq_eq_false_iff_ne, Int.ofNat_lt, Int.ofNat_le, Int.not_lt, Int.not_le, Decidable.not_not, Bool.and_eq_true, Bool.or_eq_true, Bool.or_eq_false_iff, gt_iff_lt, ge_iff_le] at h') <;> first | (exfalso; omega) | (simp (disch := first | omega | decide +kernel) only [h, hei, go_sem, reduceEqDiff, reduceLT, reduceAdd, reduceMul, reduceSub, ↓reduceIte, reduceCtorEq, reduceLeDiff, reduceSubDiff, Nat.reduceBEq] <;> clear h)) | ((first | refine callX_new (c3) rfl (by decide) ?_ | refine callY_new (c3) rfl ?_ | refine hE _ _ ret_ne ?_ | refine hE _ _ exit_ne ?_) <;> try simp (disch := first | omega | decide +kernel) only [hei, go_sem, reduceEqDiff, reduceLT, reduceAdd, reduceMul, reduceSub, ↓reduceIte, reduceCtorEq, reduceLeDiff, reduceSubDiff, Nat.reduceBEq]) | (refine hN _ ?_ ?_ Wk.kk) | (with_reducible refine And.intro ?_ ?_) | (with_reducible omega) | (exact ok_ints) | (exact cells_ints) | (exact no_mem) | (with_reducible exact plain_ints) | (refine le_maxLen ?_; omega) | (refine List.forall_mem_cons.2 ⟨?_, ?_⟩) | (simp only [go_sem, Nat.reduceAdd, Nat.reduceLT, List.mem_cons, List.not_mem_nil, forall_eq]; done)))
            all_goals (first | omega | trace_state)
          | true =>
            rw [hT] at c3
            have hI2 : ∀ j, j < i + 1 → isT p (2 ^ u) (list.getD j []) = true := fun j hj => by
              by_cases e : j = i
              · rw [e]; exact hT
              · exact hI j (by omega)
            simp (disch := first | omega | decide +kernel) only [hei, go_sem, reduceEqDiff, reduceLT, reduceAdd, reduceMul, reduceSub, ↓reduceIte, reduceCtorEq, reduceLeDiff, reduceSubDiff, Nat.reduceBEq]
            (repeat' (first | (refine gsel_split (fun h => ?_) (fun h => ?_) <;> (have h' := h) <;> (try simp only [decide_eq_true_eq, decide_eq_false_iff_not, Bool.not_eq_true', Bool.not_eq_false', bne_iff_ne, ne_eq, beq_iff_eq, bne_eq_false_iff_eq, beq_eq_false_iff_ne, Int.ofNat_lt, Int.ofNat_le, Int.not_lt, Int.not_le, Decidable.not_not, Bool.and_eq_true, Bool.or_eq_true, Bool.or_eq_false_iff, gt_iff_lt, ge_iff_le] at h') <;> first | (exfalso; omega) | (simp (disch := first | omega | decide +kernel) only [h, hei, go_sem, reduceEqDiff, reduceLT, reduceAdd, reduceMul, reduceSub, ↓reduceIte, reduceCtorEq, reduceLeDiff, reduceSubDiff, Nat.reduceBEq] <;> clear h)) | ((first | refine callX_new (c3) rfl (by decide) ?_ | refine callY_new (c3) rfl ?_ | refine hE _ _ ret_ne ?_ | refine hE _ _ exit_ne ?_) <;> try simp (disch := first | omega | decide +kernel) only [hei, go_sem, reduceEqDiff, reduceLT, reduceAdd, reduceMul, reduceSub, ↓reduceIte, reduceCtorEq, reduceLeDiff, reduceSubDiff, Nat.reduceBEq]) | (refine hN _ ?_ ?_ Wk.kk) | (with_reducible refine And.intro ?_ ?_) | (with_reducible omega) | (exact ok_ints) | (exact cells_ints) | (exact no_mem) | (with_reducible exact plain_ints) | (refine le_maxLen ?_; omega) | (refine List.forall_mem_cons.2 ⟨?_, ?_⟩) | (simp only [go_sem, Nat.reduceAdd, Nat.reduceLT, List.mem_cons, List.not_mem_nil, forall_eq]; done)))
            all_goals (first | omega | exact hI2 | trace_state)
        · obtain rfl : i = list.length := by omega
          have e : okBar p u cs d list = true := by
            rw [hok, List.all_eq_true]
            intro a ha
            obtain ⟨j, hj, rfl⟩ := mem_getD (z := ([] : List (Int × Int))) ha
            exact hI j hj
          have hL := vec_list (p := p) (by omega) hI
          have hB := basL_ok hp hu hL
          have c4 := l20Barrier_ok hp hu hpo.2 hcl hc hd hL (by simpa using h3) (t := t) (by rw [ht]; exact barP_iff (by omega) hu e hB.1.ech hB.2)
          rw [← sp_list hI] at c4
          rw [e] at hE
          clear ht hf
          simp (disch := first | omega | decide +kernel) only [go_sem, reduceEqDiff, reduceLT, reduceAdd, reduceMul, reduceSub, ↓reduceIte, reduceCtorEq, reduceLeDiff, reduceSubDiff, Nat.reduceBEq]
          (repeat' (first | (refine gsel_split (fun h => ?_) (fun h => ?_) <;> (have h' := h) <;> (try simp only [decide_eq_true_eq, decide_eq_false_iff_not, Bool.not_eq_true', Bool.not_eq_false', bne_iff_ne, ne_eq, beq_iff_eq, bne_eq_false_iff_eq, beq_eq_false_iff_ne, Int.ofNat_lt, Int.ofNat_le, Int.not_lt, Int.not_le, Decidable.not_not, Bool.and_eq_true, Bool.or_eq_true, Bool.or_eq_false_iff, gt_iff_lt, ge_iff_le] at h') <;> first | (exfalso; omega) | (simp (disch := first | omega | decide +kernel) only [h, go_sem, reduceEqDiff, reduceLT, reduceAdd, reduceMul, reduceSub, ↓reduceIte, reduceCtorEq, reduceLeDiff, reduceSubDiff, Nat.reduceBEq] <;> clear h)) | ((first | refine callX_new (c4) rfl (by decide) ?_ | refine callY_new (c4) rfl ?_ | refine hE _ _ ret_ne ?_ | refine hE _ _ exit_ne ?_) <;> try simp (disch := first | omega | decide +kernel) only [go_sem, reduceEqDiff, reduceLT, reduceAdd, reduceMul, reduceSub, ↓reduceIte, reduceCtorEq, reduceLeDiff, reduceSubDiff, Nat.reduceBEq]) | (refine hN _ ?_ ?_ Wk.kk) | (with_reducible refine And.intro ?_ ?_) | (with_reducible omega) | (exact ok_ints) | (exact cells_ints) | (exact no_mem) | (with_reducible exact plain_ints) | (refine le_maxLen ?_; omega) | (refine List.forall_mem_cons.2 ⟨?_, ?_⟩) | (simp only [go_sem, Nat.reduceAdd, Nat.reduceLT, List.mem_cons, List.not_mem_nil, forall_eq]; done)))
          all_goals (first | omega | trace_state)
      · have e : okBar p v cs d list = false := by unfold okBar; rw [h1, h2, decide_eq_false h3]; rfl
        rw [e, hf e]
        refine Ctr.of (n := 45) (rs := [.tmp 8, .tmp 9]) Try.func21 rfl rfl Try.ntmps21 rfl rfl (by kernel_rfl) Try.checked.mixed ?_
        simp (disch := first | omega | decide +kernel) only [go_sem, reduceEqDiff, reduceLT, reduceAdd, reduceMul, reduceSub, ↓reduceIte, reduceCtorEq, reduceLeDiff, reduceSubDiff, Nat.reduceBEq]
        (repeat' (first | (refine gsel_split (fun h => ?_) (fun h => ?_) <;> (have h' := h) <;> (try simp only [decide_eq_true_eq, decide_eq_false_iff_not, Bool.not_eq_true', Bool.not_eq_false', bne_iff_ne, ne_eq, beq_iff_eq, bne_eq_false_iff_eq, beq_eq_false_iff_ne, Int.ofNat_lt, Int.ofNat_le, Int.not_lt, Int.not_le, Decidable.not_not, Bool.and_eq_true, Bool.or_eq_true, Bool.or_eq_false_iff, gt_iff_lt, ge_iff_le] at h') <;> first | (exfalso; omega) | (simp (disch := first | omega | decide +kernel) only [h, go_sem, reduceEqDiff, reduceLT, reduceAdd, reduceMul, reduceSub, ↓reduceIte, reduceCtorEq, reduceLeDiff, reduceSubDiff, Nat.reduceBEq] <;> clear h)) | ((first | refine callX_new (c1) rfl (by decide) ?_ | refine callY_new (c1) rfl ?_ | refine callX_new (c2) rfl (by decide) ?_ | refine callY_new (c2) rfl ?_ | refine hE _ _ ret_ne ?_ | refine hE _ _ exit_ne ?_) <;> try simp (disch := first | omega | decide +kernel) only [go_sem, reduceEqDiff, reduceLT, reduceAdd, reduceMul, reduceSub, ↓reduceIte, reduceCtorEq, reduceLeDiff, reduceSubDiff, Nat.reduceBEq]) | (refine hN _ ?_ ?_ Wk.kk) | (with_reducible refine And.intro ?_ ?_) | (with_reducible omega) | (exact ok_ints) | (exact cells_ints) | (exact no_mem) | (with_reducible exact plain_ints) | (refine le_maxLen ?_; omega) | (refine List.forall_mem_cons.2 ⟨?_, ?_⟩) | (simp only [go_sem, Nat.reduceAdd, Nat.reduceLT, List.mem_cons, List.not_mem_nil, forall_eq]; done)))
        all_goals (first | omega | trace_state)
theorem implBar_ok (p v : Int) (cs : List (List Int)) (d : Int) (list : List (List (Int × Int))) (hcl : cs.length ≤ 1048576) (hc : ∀ j, (cs.getD j []).length ≤ 1048576) (hll : list.length ≤ 1048576) (hx : ∀ j, (list.getD j []).length ≤ 1048576) {t : Bool} (ht : t = true ↔ BarP p v cs d list) :
    Ctr Try.prog 23 [.int .i64 p, .agg [.int .i64 v, .slice (cs.map D.ints)], .int .i64 d, .slice (list.map D.tms)] false (.tup [.d (.bool t), .d (.bool (okBar p v cs d list))]) [] := by
  have c2 := degreeOk_ok d
  have hf : okBar p v cs d list = false → t = false := fun h => bool_of ht fun h' => by have h9 := h'.1; rw [h] at h9; cases h9
  cases h1 : primeB p v && okCnf v cs with
  | false =>
    have c1 := algebraBad_ok p v cs h1 (by omega) (fun j => by have := hc j; omega)
    have e : okBar p v cs d list = false := by unfold okBar; rw [h1]; rfl
    rw [e, hf e]
    refine Ctr.of (n := 47) (rs := [.tmp 8, .tmp 9]) Try.func23 rfl rfl Try.ntmps23 rfl rfl (by kernel_rfl) Try.checked.mixed ?_
    simp (disch := first | omega | decide +kernel) only [go_sem, reduceEqDiff, reduceLT, reduceAdd, reduceMul, reduceSub, ↓reduceIte, reduceCtorEq, reduceLeDiff, reduceSubDiff, Nat.reduceBEq]
    (repeat' (first | (refine gsel_split (fun h => ?_) (fun h => ?_) <;> (have h' := h) <;> (try simp only [decide_eq_true_eq, decide_eq_false_iff_not, Bool.not_eq_true', Bool.not_eq_false', bne_iff_ne, ne_eq, beq_iff_eq, bne_eq_false_iff_eq, beq_eq_false_iff_ne, Int.ofNat_lt, Int.ofNat_le, Int.not_lt, Int.not_le, Decidable.not_not, Bool.and_eq_true, Bool.or_eq_true, Bool.or_eq_false_iff, gt_iff_lt, ge_iff_le] at h') <;> first | (exfalso; omega) | (simp (disch := first | omega | decide +kernel) only [h, go_sem, reduceEqDiff, reduceLT, reduceAdd, reduceMul, reduceSub, ↓reduceIte, reduceCtorEq, reduceLeDiff, reduceSubDiff, Nat.reduceBEq] <;> clear h)) | ((first | refine callX_shared (c1) rfl (by decide) ?_ | refine callY_shared (c1) rfl ?_ | refine hE _ _ ret_ne ?_ | refine hE _ _ exit_ne ?_) <;> try simp (disch := first | omega | decide +kernel) only [go_sem, reduceEqDiff, reduceLT, reduceAdd, reduceMul, reduceSub, ↓reduceIte, reduceCtorEq, reduceLeDiff, reduceSubDiff, Nat.reduceBEq]) | (refine hN _ ?_ ?_ Wk.kk) | (with_reducible refine And.intro ?_ ?_) | (with_reducible omega) | (exact ok_ints) | (exact cells_ints) | (exact no_mem) | (with_reducible exact plain_ints) | (refine le_maxLen ?_; omega) | (refine List.forall_mem_cons.2 ⟨?_, ?_⟩) | (simp only [go_sem, Nat.reduceAdd, Nat.reduceLT, List.mem_cons, List.not_mem_nil, forall_eq]; done)))
    all_goals (first | omega | trace_state)
  | true =>
    have hpo := h1
    rw [Bool.and_eq_true] at hpo
    obtain ⟨hp, hv⟩ := primeB_235 hpo.1
    obtain ⟨u, rfl⟩ : ∃ u : Nat, v = u := ⟨v.toNat, by omega⟩
    have hu : u ≤ 6 := by omega
    have c1 := algebraOf_ok (p := p) (by omega) hu hpo.1 hpo.2 (by omega) (fun j => by have := hc j; omega)
    cases h2 : degB d with
    | false =>
      have e : okBar p u cs d list = false := by unfold okBar; rw [h1, h2]; rfl
      rw [h2] at c2
      rw [e, hf e]
      refine Ctr.of (n := 47) (rs := [.tmp 8, .tmp 9]) Try.func23 rfl rfl Try.ntmps23 rfl rfl (by kernel_rfl) Try.checked.mixed ?_
      simp (disch := first | omega | decide +kernel) only [D.alg, go_sem, reduceEqDiff, reduceLT, reduceAdd, reduceMul, reduceSub, ↓reduceIte, reduceCtorEq, reduceLeDiff, reduceSubDiff, Nat.reduceBEq]
      (repeat' (first | (refine gsel_split (fun h => ?_) (fun h => ?_) <;> (have h' := h) <;> (try simp only [decide_eq_true_eq, decide_eq_false_iff_not, Bool.not_eq_true', Bool.not_eq_false', bne_iff_ne, ne_eq, beq_iff_eq, bne_eq_false_iff_eq, beq_eq_false_iff_ne, Int.ofNat_lt, Int.ofNat_le, Int.not_lt, Int.not_le, Decidable.not_not, Bool.and_eq_true, Bool.or_eq_true, Bool.or_eq_false_iff, gt_iff_lt, ge_iff_le] at h') <;> first | (exfalso; omega) | (simp (disch := first | omega | decide +kernel) only [h, go_sem, reduceEqDiff, reduceLT, reduceAdd, reduceMul, reduceSub, ↓reduceIte, reduceCtorEq, reduceLeDiff, reduceSubDiff, Nat.reduceBEq] <;> clear h)) | ((first | refine callX_shared (c1) rfl (by decide) ?_ | refine callY_shared (c1) rfl ?_ | refine callX_new (c2) rfl (by decide) ?_ | refine callY_new (c2) rfl ?_ | refine hE _ _ ret_ne ?_ | refine hE _ _ exit_ne ?_) <;> try simp (disch := first | omega | decide +kernel) only [go_sem, reduceEqDiff, reduceLT, reduceAdd, reduceMul, reduceSub, ↓reduceIte, reduceCtorEq, reduceLeDiff, reduceSubDiff, Nat.reduceBEq]) | (refine hN _ ?_ ?_ Wk.kk) | (with_reducible refine And.intro ?_ ?_) | (with_reducible omega) | (exact ok_ints) | (exact cells_ints) | (exact no_mem) | (with_reducible exact plain_ints) | (refine le_maxLen ?_; omega) | (refine List.forall_mem_cons.2 ⟨?_, ?_⟩) | (simp only [go_sem, Nat.reduceAdd, Nat.reduceLT, List.mem_cons, List.not_mem_nil, forall_eq]; done)))
      all_goals (first | omega | trace_state)
    | true =>
      rw [h2] at c2
      by_cases h3 : list.length ≤ 64
      · have hok : okBar p u cs d list = list.all (isT p (2 ^ u)) := by unfold okBar; rw [h1, h2, decide_eq_true h3, Int.toNat_natCast]; rfl
        have hd : 0 ≤ d ∧ d ≤ 6 := by simpa [degB] using h2
        have c3 := polys_ok (p := p) (by omega) hu (list := list) hpo.1 (by omega) (fun j => by have := hx j; omega)
        cases hT : list.all (isT p (2 ^ u)) with
        | false =>
          rw [hT] at c3 hok
          rw [hok, hf hok]
          refine Ctr.of (n := 47) (rs := [.tmp 8, .tmp 9]) Try.func23 rfl rfl Try.ntmps23 rfl rfl (by kernel_rfl) Try.checked.mixed ?_
          simp (disch := first | omega | decide +kernel) only [D.alg, go_sem, reduceEqDiff, reduceLT, reduceAdd, reduceMul, reduceSub, ↓reduceIte, reduceCtorEq, reduceLeDiff, reduceSubDiff, Nat.reduceBEq]
          (repeat' (first | (refine gsel_split (fun h => ?_) (fun h => ?_) <;> (have h' := h) <;> (try simp only [decide_eq_true_eq, decide_eq_false_iff_not, Bool.not_eq_true', Bool.not_eq_false', bne_iff_ne, ne_eq, beq_iff_eq, bne_eq_false_iff_eq, beq_eq_false_iff_ne, Int.ofNat_lt, Int.ofNat_le, Int.not_lt, Int.not_le, Decidable.not_not, Bool.and_eq_true, Bool.or_eq_true, Bool.or_eq_false_iff, gt_iff_lt, ge_iff_le] at h') <;> first | (exfalso; omega) | (simp (disch := first | omega | decide +kernel) only [h, go_sem, reduceEqDiff, reduceLT, reduceAdd, reduceMul, reduceSub, ↓reduceIte, reduceCtorEq, reduceLeDiff, reduceSubDiff, Nat.reduceBEq] <;> clear h)) | ((first | refine callX_shared (c1) rfl (by decide) ?_ | refine callY_shared (c1) rfl ?_ | refine callX_new (c2) rfl (by decide) ?_ | refine callY_new (c2) rfl ?_ | refine callX_shared (c3) rfl (by decide) ?_ | refine callY_shared (c3) rfl ?_ | refine hE _ _ ret_ne ?_ | refine hE _ _ exit_ne ?_) <;> try simp (disch := first | omega | decide +kernel) only [go_sem, reduceEqDiff, reduceLT, reduceAdd, reduceMul, reduceSub, ↓reduceIte, reduceCtorEq, reduceLeDiff, reduceSubDiff, Nat.reduceBEq]) | (refine hN _ ?_ ?_ Wk.kk) | (with_reducible refine And.intro ?_ ?_) | (with_reducible omega) | (exact ok_ints) | (exact cells_ints) | (exact no_mem) | (with_reducible exact plain_ints) | (refine le_maxLen ?_; omega) | (refine List.forall_mem_cons.2 ⟨?_, ?_⟩) | (simp only [go_sem, Nat.reduceAdd, Nat.reduceLT, List.mem_cons, List.not_mem_nil, forall_eq]; done)))
          all_goals (first | omega | trace_state)
        | true =>
          rw [hT] at c3 hok
          simp only [if_true] at c3
          rw [List.all_eq_true] at hT
          have hL := vec_list (p := p) (n := 2 ^ u) (by omega) (list := list) fun j hj => hT _ (getD_mem hj)
          have hB := echL_ok hp hu hL
          have c4 := barrier_ok hp hu hpo.2 hcl hc hd hL (by simpa using h3) (t := t) (by rw [ht]; exact barP_iff (by omega) hu hok hB.1.ech hB.2)
          rw [hok]
          generalize list.map (dnT (2 ^ u)) = L at *
          clear ht hf
          refine Ctr.of (n := 47) (rs := [.tmp 8, .tmp 9]) Try.func23 rfl rfl Try.ntmps23 rfl rfl (by kernel_rfl) Try.checked.mixed ?_
          simp (disch := first | omega | decide +kernel) only [D.alg, go_sem, reduceEqDiff, reduceLT, reduceAdd, reduceMul, reduceSub, ↓reduceIte, reduceCtorEq, reduceLeDiff, reduceSubDiff, Nat.reduceBEq]
          (repeat' (first | (refine gsel_split (fun h => ?_) (fun h => ?_) <;> (have h' := h) <;> (try simp only [decide_eq_true_eq, decide_eq_false_iff_not, Bool.not_eq_true', Bool.not_eq_false', bne_iff_ne, ne_eq, beq_iff_eq, bne_eq_false_iff_eq, beq_eq_false_iff_ne, Int.ofNat_lt, Int.ofNat_le, Int.not_lt, Int.not_le, Decidable.not_not, Bool.and_eq_true, Bool.or_eq_true, Bool.or_eq_false_iff, gt_iff_lt, ge_iff_le] at h') <;> first | (exfalso; omega) | (simp (disch := first | omega | decide +kernel) only [h, go_sem, reduceEqDiff, reduceLT, reduceAdd, reduceMul, reduceSub, ↓reduceIte, reduceCtorEq, reduceLeDiff, reduceSubDiff, Nat.reduceBEq] <;> clear h)) | ((first | refine callX_shared (c1) rfl (by decide) ?_ | refine callY_shared (c1) rfl ?_ | refine callX_new (c2) rfl (by decide) ?_ | refine callY_new (c2) rfl ?_ | refine callX_shared (c3) rfl (by decide) ?_ | refine callY_shared (c3) rfl ?_ | refine callX_new (c4) rfl (by decide) ?_ | refine callY_new (c4) rfl ?_ | refine hE _ _ ret_ne ?_ | refine hE _ _ exit_ne ?_) <;> try simp (disch := first | omega | decide +kernel) only [go_sem, reduceEqDiff, reduceLT, reduceAdd, reduceMul, reduceSub, ↓reduceIte, reduceCtorEq, reduceLeDiff, reduceSubDiff, Nat.reduceBEq]) | (refine hN _ ?_ ?_ Wk.kk) | (with_reducible refine And.intro ?_ ?_) | (with_reducible omega) | (exact ok_ints) | (exact cells_ints) | (exact no_mem) | (with_reducible exact plain_ints) | (refine le_maxLen ?_; omega) | (refine List.forall_mem_cons.2 ⟨?_, ?_⟩) | (simp only [go_sem, Nat.reduceAdd, Nat.reduceLT, List.mem_cons, List.not_mem_nil, forall_eq]; done)))
          all_goals (first | omega | trace_state)
      · have e : okBar p u cs d list = false := by unfold okBar; rw [h1, h2, decide_eq_false h3]; rfl
        rw [e, hf e]
        refine Ctr.of (n := 47) (rs := [.tmp 8, .tmp 9]) Try.func23 rfl rfl Try.ntmps23 rfl rfl (by kernel_rfl) Try.checked.mixed ?_
        simp (disch := first | omega | decide +kernel) only [D.alg, go_sem, reduceEqDiff, reduceLT, reduceAdd, reduceMul, reduceSub, ↓reduceIte, reduceCtorEq, reduceLeDiff, reduceSubDiff, Nat.reduceBEq]
        (repeat' (first | (refine gsel_split (fun h => ?_) (fun h => ?_) <;> (have h' := h) <;> (try simp only [decide_eq_true_eq, decide_eq_false_iff_not, Bool.not_eq_true', Bool.not_eq_false', bne_iff_ne, ne_eq, beq_iff_eq, bne_eq_false_iff_eq, beq_eq_false_iff_ne, Int.ofNat_lt, Int.ofNat_le, Int.not_lt, Int.not_le, Decidable.not_not, Bool.and_eq_true, Bool.or_eq_true, Bool.or_eq_false_iff, gt_iff_lt, ge_iff_le] at h') <;> first | (exfalso; omega) | (simp (disch := first | omega | decide +kernel) only [h, go_sem, reduceEqDiff, reduceLT, reduceAdd, reduceMul, reduceSub, ↓reduceIte, reduceCtorEq, reduceLeDiff, reduceSubDiff, Nat.reduceBEq] <;> clear h)) | ((first | refine callX_shared (c1) rfl (by decide) ?_ | refine callY_shared (c1) rfl ?_ | refine callX_new (c2) rfl (by decide) ?_ | refine callY_new (c2) rfl ?_ | refine hE _ _ ret_ne ?_ | refine hE _ _ exit_ne ?_) <;> try simp (disch := first | omega | decide +kernel) only [go_sem, reduceEqDiff, reduceLT, reduceAdd, reduceMul, reduceSub, ↓reduceIte, reduceCtorEq, reduceLeDiff, reduceSubDiff, Nat.reduceBEq]) | (refine hN _ ?_ ?_ Wk.kk) | (with_reducible refine And.intro ?_ ?_) | (with_reducible omega) | (exact ok_ints) | (exact cells_ints) | (exact no_mem) | (with_reducible exact plain_ints) | (refine le_maxLen ?_; omega) | (refine List.forall_mem_cons.2 ⟨?_, ?_⟩) | (simp only [go_sem, Nat.reduceAdd, Nat.reduceLT, List.mem_cons, List.not_mem_nil, forall_eq]; done)))
        all_goals (first | omega | trace_state)
end Abs.Y

namespace Abs.Y
open Go Go.Proofs Abs
open Nat (reduceEqDiff reduceLT reduceAdd reduceMul reduceSub reduceLeDiff reduceSubDiff)
set_option maxRecDepth 100000


theorem szCnf_ok (v : Int) (a : List (List Int)) (left : Int) (hl : a.length ≤ 9223372036854775807) (hx : ∀ x ∈ a, x.length ≤ 9223372036854775807) (h1 : 0 ≤ left ∧ left ≤ 1048576) : Ctr Try.prog 12 [.agg [.int .i64 v, .slice (a.map D.ints)], .int .i64 left] false (.d (.int .i64 (szS szI a left))) [] := by
  have hf := szS_szF szI_szF a left h1.1
  refine Ctr.of (n := 12) (rs := [.tmp 4]) Try.func12 rfl rfl Try.ntmps12 rfl rfl (by kernel_rfl) Try.checked.mixed ?_
  simp (disch := first | omega | decide +kernel) only [go_sem, reduceEqDiff, reduceLT, reduceAdd, reduceMul, reduceSub, ↓reduceIte, reduceCtorEq, reduceLeDiff, reduceSubDiff, Nat.reduceBEq]
  (repeat' (first | (refine gsel_split (fun h => ?_) (fun h => ?_) <;> (have h' := h) <;> (try simp only [decide_eq_true_eq, decide_eq_false_iff_not, Bool.not_eq_true', Bool.not_eq_false', bne_iff_ne, ne_eq, beq_iff_eq, bne_eq_false_iff_eq, beq_eq_false_iff_ne, Int.ofNat_lt, Int.ofNat_le, Int.not_lt, Int.not_le, Decidable.not_not, Bool.and_eq_true, Bool.or_eq_true, Bool.or_eq_false_iff, gt_iff_lt, ge_iff_le] at h') <;> simp (disch := first | omega | decide +kernel) only [h, go_sem, reduceEqDiff, reduceLT, reduceAdd, reduceMul, reduceSub, ↓reduceIte, reduceCtorEq, reduceLeDiff, reduceSubDiff, Nat.reduceBEq] <;> clear h) | ((first | refine callX_new (szIntSS_ok a left hl hx h1) rfl (by decide) ?_ | refine callY_new (szIntSS_ok a left hl hx h1) rfl ?_ | refine hE _ _ ret_ne ?_ | refine hE _ _ exit_ne ?_) <;> try simp (disch := first | omega | decide +kernel) only [go_sem, reduceEqDiff, reduceLT, reduceAdd, reduceMul, reduceSub, ↓reduceIte, reduceCtorEq, reduceLeDiff, reduceSubDiff, Nat.reduceBEq]) | (refine hN _ ?_ ?_ Wk.kk) | (with_reducible refine And.intro ?_ ?_) | (with_reducible omega) | (exact ok_ints) | (exact cells_ints) | (exact no_mem) | (with_reducible exact plain_ints) | (refine le_maxLen ?_; omega) | (refine List.forall_mem_cons.2 ⟨?_, ?_⟩) | (simp only [go_sem, Nat.reduceAdd, Nat.reduceLT, List.mem_cons, List.not_mem_nil, forall_eq]; done)))
  · have : szS szI a left = -1 := by omega
    rw [this]
theorem toCnf_ok (v : Int) (a : List (List Int)) (hl : a.length ≤ 4294967296) (hx : ∀ x ∈ a, x.length ≤ 4294967296) : Ctr Try.prog 15 [.agg [.int .i64 v, .slice (a.map D.ints)]] true (.d (.agg [.int .i64 v, .slice (a.map D.ints)])) [] := by
  have hc := Ctr.data1 (toIntSS_ok a hl hx)
  refine Ctr.of (n := 12) (rs := [.cell 2 30]) Try.func15 rfl rfl Try.ntmps15 rfl rfl (by kernel_rfl) Try.checked.mixed ?_
  simp (disch := first | omega | decide +kernel) only [go_sem, reduceEqDiff, reduceLT, reduceAdd, reduceMul, reduceSub, ↓reduceIte, reduceCtorEq, reduceLeDiff, reduceSubDiff, Nat.reduceBEq]
  (repeat' (first | (refine gsel_split (fun h => ?_) (fun h => ?_) <;> (have h' := h) <;> (try simp only [decide_eq_true_eq, decide_eq_false_iff_not, Bool.not_eq_true', Bool.not_eq_false', bne_iff_ne, ne_eq, beq_iff_eq, bne_eq_false_iff_eq, beq_eq_false_iff_ne, Int.ofNat_lt, Int.ofNat_le, Int.not_lt, Int.not_le, Decidable.not_not, Bool.and_eq_true, Bool.or_eq_true, Bool.or_eq_false_iff, gt_iff_lt, ge_iff_le] at h') <;> simp (disch := first | omega | decide +kernel) only [h, go_sem, reduceEqDiff, reduceLT, reduceAdd, reduceMul, reduceSub, ↓reduceIte, reduceCtorEq, reduceLeDiff, reduceSubDiff, Nat.reduceBEq] <;> clear h) | ((first | refine callX_shared (hc) rfl (by decide) ?_ | refine callY_shared (hc) rfl ?_ | refine hE _ _ ret_ne ?_ | refine hE _ _ exit_ne ?_) <;> try simp (disch := first | omega | decide +kernel) only [go_sem, reduceEqDiff, reduceLT, reduceAdd, reduceMul, reduceSub, ↓reduceIte, reduceCtorEq, reduceLeDiff, reduceSubDiff, Nat.reduceBEq]) | (refine hN _ ?_ ?_ Wk.kk) | (with_reducible refine And.intro ?_ ?_) | (with_reducible omega) | (exact ok_ints) | (exact cells_ints) | (exact no_mem) | (with_reducible exact plain_ints) | (refine le_maxLen ?_; omega) | (refine List.forall_mem_cons.2 ⟨?_, ?_⟩) | (simp only [go_sem, Nat.reduceAdd, Nat.reduceLT, List.mem_cons, List.not_mem_nil, forall_eq]; done)))
  exact ret_cb rfl rfl (by simp only [go_sem]) (by simp only [go_sem, List.length_cons, List.length_nil]) rfl (by simp only [go_sem])
theorem eqCnf_ok (u v : Int) (a b : List (List Int)) (hl : a.length ≤ 4294967296) (hx : ∀ x ∈ a, x.length ≤ 4294967296) :
    Ctr Try.prog 18 [.agg [.int .i64 u, .slice (a.map D.ints)], .agg [.int .i64 v, .slice (b.map D.ints)]] false (.d (.bool (decide (u = v ∧ a = b)))) [] := by
  have hc := eqIntSS_ok a b hl hx
  refine Ctr.of (n := 16) (rs := [.tmp 4]) Try.func18 rfl rfl Try.ntmps18 rfl rfl (by kernel_rfl) Try.checked.mixed ?_
  simp (disch := first | omega | decide +kernel) only [go_sem, reduceEqDiff, reduceLT, reduceAdd, reduceMul, reduceSub, ↓reduceIte, reduceCtorEq, reduceLeDiff, reduceSubDiff, Nat.reduceBEq]
  (repeat' (first | (refine gsel_split (fun h => ?_) (fun h => ?_) <;> (have h' := h) <;> (try simp only [decide_eq_true_eq, decide_eq_false_iff_not, Bool.not_eq_true', Bool.not_eq_false', bne_iff_ne, ne_eq, beq_iff_eq, bne_eq_false_iff_eq, beq_eq_false_iff_ne, Int.ofNat_lt, Int.ofNat_le, Int.not_lt, Int.not_le, Decidable.not_not, Bool.and_eq_true, Bool.or_eq_true, Bool.or_eq_false_iff, gt_iff_lt, ge_iff_le] at h') <;> simp (disch := first | omega | decide +kernel) only [h, go_sem, reduceEqDiff, reduceLT, reduceAdd, reduceMul, reduceSub, ↓reduceIte, reduceCtorEq, reduceLeDiff, reduceSubDiff, Nat.reduceBEq] <;> clear h) | ((first | refine callX_new (hc) rfl (by decide) ?_ | refine callY_new (hc) rfl ?_ | refine hE _ _ ret_ne ?_ | refine hE _ _ exit_ne ?_) <;> try simp (disch := first | omega | decide +kernel) only [go_sem, reduceEqDiff, reduceLT, reduceAdd, reduceMul, reduceSub, ↓reduceIte, reduceCtorEq, reduceLeDiff, reduceSubDiff, Nat.reduceBEq]) | (refine hN _ ?_ ?_ Wk.kk) | (with_reducible refine And.intro ?_ ?_) | (with_reducible omega) | (exact ok_ints) | (exact cells_ints) | (exact no_mem) | (with_reducible exact plain_ints) | (refine le_maxLen ?_; omega) | (refine List.forall_mem_cons.2 ⟨?_, ?_⟩) | (simp only [go_sem, Nat.reduceAdd, Nat.reduceLT, List.mem_cons, List.not_mem_nil, forall_eq]; done)))
  all_goals (first | (simp_all [D.plain]; done) | trace_state)

end Abs.Y

namespace Abs.Y
open Go Go.Proofs Abs
open Nat (reduceEqDiff reduceLT reduceAdd reduceMul reduceSub reduceLeDiff reduceSubDiff)
set_option maxRecDepth 100000

abbrev Tm := Int × Int
def szT (a : List Tm) (left : Int) : Int := szI (a.map Prod.fst) left
theorem szT_szF : SzF szT := fun a left h => szI_szF (a.map Prod.fst) left h
theorem szT_len {a : List Tm} {left : Int} (h : 0 ≤ szT a left) : (a.length : Int) ≤ left := by
  have := szI_len h
  rwa [List.length_map] at this
theorem szTermS_ok (a : List Tm) (left : Int) (hl : a.length ≤ 9223372036854775807) (h1 : 0 ≤ left ∧ left ≤ 1048576) : Ctr Try.prog 47 [D.tms a, .int .i64 left] false (.d (.int .i64 (szT a left))) [] := by
  refine Ctr.of (n := 12) (rs := [.tmp 4]) Try.func47 rfl rfl Try.ntmps47 rfl rfl (by kernel_rfl) Try.checked.mixed ?_
  simp (disch := first | omega | decide +kernel) only [go_sem, reduceEqDiff, reduceLT, reduceAdd, reduceMul, reduceSub, ↓reduceIte, reduceCtorEq, reduceLeDiff, reduceSubDiff, Nat.reduceBEq]
  (repeat' (first | (refine gsel_split (fun h => ?_) (fun h => ?_) <;> (have h' := h) <;> (try simp only [decide_eq_true_eq, decide_eq_false_iff_not, Bool.not_eq_true', Bool.not_eq_false', bne_iff_ne, ne_eq, beq_iff_eq, bne_eq_false_iff_eq, beq_eq_false_iff_ne, Int.ofNat_lt, Int.ofNat_le, Int.not_lt, Int.not_le, Decidable.not_not, Bool.and_eq_true, Bool.or_eq_true, Bool.or_eq_false_iff, gt_iff_lt, ge_iff_le] at h') <;> simp (disch := first | omega | decide +kernel) only [h, go_sem, reduceEqDiff, reduceLT, reduceAdd, reduceMul, reduceSub, ↓reduceIte, reduceCtorEq, reduceLeDiff, reduceSubDiff, Nat.reduceBEq] <;> clear h) | ((first | refine hE _ _ ret_ne ?_ | refine hE _ _ exit_ne ?_) <;> try simp (disch := first | omega | decide +kernel) only [go_sem, reduceEqDiff, reduceLT, reduceAdd, reduceMul, reduceSub, ↓reduceIte, reduceCtorEq, reduceLeDiff, reduceSubDiff, Nat.reduceBEq]) | (refine hN _ ?_ ?_ Wk.kk) | (with_reducible refine And.intro ?_ ?_) | (with_reducible omega) | (exact ok_ints) | (exact cells_ints) | (exact no_mem) | (with_reducible exact plain_ints) | (refine le_maxLen ?_; omega) | (refine List.forall_mem_cons.2 ⟨?_, ?_⟩) | (simp only [go_sem, Nat.reduceAdd, Nat.reduceLT, List.mem_cons, List.not_mem_nil, forall_eq]; done)))
  · simp [szT, szI, h', D.plain]
  · simp [szT, szI, show ¬ (left - a.length < 0) by omega]
theorem toTerm_ok (t : Tm) : Ctr Try.prog 117 [D.tm t] true (.d (D.tm t)) [] := by
  refine Ctr.of (n := 11) (rs := [.cell 2 124]) Try.func117 rfl rfl Try.ntmps117 rfl rfl (by kernel_rfl) Try.checked.mixed ?_
  simp (disch := first | omega | decide +kernel) only [go_sem, reduceEqDiff, reduceLT, reduceAdd, reduceMul, reduceSub, ↓reduceIte, reduceCtorEq, reduceLeDiff, reduceSubDiff, Nat.reduceBEq]
  (repeat' (first | (refine gsel_split (fun h => ?_) (fun h => ?_) <;> (have h' := h) <;> (try simp only [decide_eq_true_eq, decide_eq_false_iff_not, Bool.not_eq_true', Bool.not_eq_false', bne_iff_ne, ne_eq, beq_iff_eq, bne_eq_false_iff_eq, beq_eq_false_iff_ne, Int.ofNat_lt, Int.ofNat_le, Int.not_lt, Int.not_le, Decidable.not_not, Bool.and_eq_true, Bool.or_eq_true, Bool.or_eq_false_iff, gt_iff_lt, ge_iff_le] at h') <;> simp (disch := first | omega | decide +kernel) only [h, go_sem, reduceEqDiff, reduceLT, reduceAdd, reduceMul, reduceSub, ↓reduceIte, reduceCtorEq, reduceLeDiff, reduceSubDiff, Nat.reduceBEq] <;> clear h) | ((first | refine hE _ _ ret_ne ?_ | refine hE _ _ exit_ne ?_) <;> try simp (disch := first | omega | decide +kernel) only [go_sem, reduceEqDiff, reduceLT, reduceAdd, reduceMul, reduceSub, ↓reduceIte, reduceCtorEq, reduceLeDiff, reduceSubDiff, Nat.reduceBEq]) | (refine hN _ ?_ ?_ Wk.kk) | (with_reducible refine And.intro ?_ ?_) | (with_reducible omega) | (exact ok_ints) | (exact cells_ints) | (exact no_mem) | (with_reducible exact plain_ints) | (refine le_maxLen ?_; omega) | (refine List.forall_mem_cons.2 ⟨?_, ?_⟩) | (simp only [go_sem, Nat.reduceAdd, Nat.reduceLT, List.mem_cons, List.not_mem_nil, forall_eq]; done)))
  all_goals (first | exact ret_cb rfl rfl (by simp only [go_sem]) (by simp only [go_sem, List.length_cons, List.length_nil]) rfl (by simp only [go_sem]) | trace_state)
theorem eqTerm_ok (s t : Tm) : Ctr Try.prog 120 [D.tm s, D.tm t] false (.d (.bool (decide (s = t)))) [] := by
  obtain ⟨a, b⟩ := s
  obtain ⟨c, d⟩ := t
  have e : decide ((a, b) = (c, d)) = (decide (a = c) && decide (b = d)) := by
    by_cases h1 : a = c <;> by_cases h2 : b = d <;> simp [h1, h2]
  rw [e]
  refine Ctr.of (n := 15) (rs := [.tmp 4]) Try.func120 rfl rfl Try.ntmps120 rfl rfl (by kernel_rfl) Try.checked.mixed ?_
  simp (disch := first | omega | decide +kernel) only [go_sem, reduceEqDiff, reduceLT, reduceAdd, reduceMul, reduceSub, ↓reduceIte, reduceCtorEq, reduceLeDiff, reduceSubDiff, Nat.reduceBEq]
  (repeat' (first | (refine gsel_split (fun h => ?_) (fun h => ?_) <;> (have h' := h) <;> (try simp only [decide_eq_true_eq, decide_eq_false_iff_not, Bool.not_eq_true', Bool.not_eq_false', bne_iff_ne, ne_eq, beq_iff_eq, bne_eq_false_iff_eq, beq_eq_false_iff_ne, Int.ofNat_lt, Int.ofNat_le, Int.not_lt, Int.not_le, Decidable.not_not, Bool.and_eq_true, Bool.or_eq_true, Bool.or_eq_false_iff, gt_iff_lt, ge_iff_le] at h') <;> simp (disch := first | omega | decide +kernel) only [h, go_sem, reduceEqDiff, reduceLT, reduceAdd, reduceMul, reduceSub, ↓reduceIte, reduceCtorEq, reduceLeDiff, reduceSubDiff, Nat.reduceBEq] <;> clear h) | ((first | refine hE _ _ ret_ne ?_ | refine hE _ _ exit_ne ?_) <;> try simp (disch := first | omega | decide +kernel) only [go_sem, reduceEqDiff, reduceLT, reduceAdd, reduceMul, reduceSub, ↓reduceIte, reduceCtorEq, reduceLeDiff, reduceSubDiff, Nat.reduceBEq]) | (refine hN _ ?_ ?_ Wk.kk) | (with_reducible refine And.intro ?_ ?_) | (with_reducible omega) | (exact ok_ints) | (exact cells_ints) | (exact no_mem) | (with_reducible exact plain_ints) | (refine le_maxLen ?_; omega) | (refine List.forall_mem_cons.2 ⟨?_, ?_⟩) | (simp only [go_sem, Nat.reduceAdd, Nat.reduceLT, List.mem_cons, List.not_mem_nil, forall_eq]; done)))
  all_goals (first | omega | (simp_all [D.plain]; done) | trace_state)
theorem szTermSS_ok (a : List (List Tm)) (left : Int) (hl : a.length ≤ 9223372036854775807) (hx : ∀ x ∈ a, x.length ≤ 9223372036854775807) (h1 : 0 ≤ left ∧ left ≤ 1048576) : Ctr Try.prog 20 [.slice (a.map D.tms), .int .i64 left] false (.d (.int .i64 (szS szT a left))) [] := by
  refine Ctr.of (n := 27) (rs := [.tmp 4]) Try.func20 rfl rfl Try.ntmps20 rfl rfl (by kernel_rfl) Try.checked.mixed ?_
  simp (disch := first | omega | decide +kernel) only [go_sem, reduceEqDiff, reduceLT, reduceAdd, reduceMul, reduceSub, ↓reduceIte, reduceCtorEq, reduceLeDiff, reduceSubDiff, Nat.reduceBEq]
  (repeat' (first | (refine gsel_split (fun h => ?_) (fun h => ?_) <;> (have h' := h) <;> (try simp only [decide_eq_true_eq, decide_eq_false_iff_not, Bool.not_eq_true', Bool.not_eq_false', bne_iff_ne, ne_eq, beq_iff_eq, bne_eq_false_iff_eq, beq_eq_false_iff_ne, Int.ofNat_lt, Int.ofNat_le, Int.not_lt, Int.not_le, Decidable.not_not, Bool.and_eq_true, Bool.or_eq_true, Bool.or_eq_false_iff, gt_iff_lt, ge_iff_le] at h') <;> simp (disch := first | omega | decide +kernel) only [h, go_sem, reduceEqDiff, reduceLT, reduceAdd, reduceMul, reduceSub, ↓reduceIte, reduceCtorEq, reduceLeDiff, reduceSubDiff, Nat.reduceBEq] <;> clear h) | ((first | refine hE _ _ ret_ne ?_ | refine hE _ _ exit_ne ?_) <;> try simp (disch := first | omega | decide +kernel) only [go_sem, reduceEqDiff, reduceLT, reduceAdd, reduceMul, reduceSub, ↓reduceIte, reduceCtorEq, reduceLeDiff, reduceSubDiff, Nat.reduceBEq]) | (refine hN _ ?_ ?_ Wk.kk) | (with_reducible refine And.intro ?_ ?_) | (with_reducible omega) | (exact ok_ints) | (exact cells_ints) | (exact no_mem) | (with_reducible exact plain_ints) | (refine le_maxLen ?_; omega) | (refine List.forall_mem_cons.2 ⟨?_, ?_⟩) | (simp only [go_sem, Nat.reduceAdd, Nat.reduceLT, List.mem_cons, List.not_mem_nil, forall_eq]; done)))
  · simp [szS, h', D.plain]
  rw [szS, if_neg (by omega)]
  refine Ok.loopN [25, 24, 23, 22, 21, 20, 19, 18, 17, 16, 15, 14, 13, 12, 11, 10, 9, 8, 7, 6, 5, 4, 3, 2, 1] (fun i l => [(5, .d (.int .i64 (i : Nat))), (1, .d (.int .i64 l))]) (fun _ _ => []) a.length
    (fun i (l : Int) => 0 ≤ l ∧ l ≤ 1048576 ∧ szL szT a (left - a.length) = szL szT (a.drop i) l) (left - a.length) ⟨by omega, by omega, by simp⟩ (Wk.kk) ?_
  rintro R i l hN hE hi ⟨h3, h4, h5⟩
  by_cases hlt : i < a.length
  · have he := hx _ (getD_mem (z := ([] : List Tm)) hlt)
    have hf := szT_szF (a.getD i []) l h3
    have hei := el_tms hlt
    rw [drop_cons [] a i hlt, szL] at h5
    have hc := szTermS_ok (a.getD i []) l he ⟨h3, h4⟩
    simp (disch := first | omega | decide +kernel) only [hei, go_sem, reduceEqDiff, reduceLT, reduceAdd, reduceMul, reduceSub, ↓reduceIte, reduceCtorEq, reduceLeDiff, reduceSubDiff, Nat.reduceBEq]
    (repeat' (first | (refine gsel_split (fun h => ?_) (fun h => ?_) <;> (have h' := h) <;> (try simp only [decide_eq_true_eq, decide_eq_false_iff_not, Bool.not_eq_true', Bool.not_eq_false', bne_iff_ne, ne_eq, beq_iff_eq, bne_eq_false_iff_eq, beq_eq_false_iff_ne, Int.ofNat_lt, Int.ofNat_le, Int.not_lt, Int.not_le, Decidable.not_not, Bool.and_eq_true, Bool.or_eq_true, Bool.or_eq_false_iff, gt_iff_lt, ge_iff_le] at h') <;> simp (disch := first | omega | decide +kernel) only [h, hei, go_sem, reduceEqDiff, reduceLT, reduceAdd, reduceMul, reduceSub, ↓reduceIte, reduceCtorEq, reduceLeDiff, reduceSubDiff, Nat.reduceBEq] <;> clear h) | ((first | refine callX_new (hc) rfl (by decide) ?_ | refine callY_new (hc) rfl ?_ | refine hE _ _ ret_ne ?_ | refine hE _ _ exit_ne ?_) <;> try simp (disch := first | omega | decide +kernel) only [hei, go_sem, reduceEqDiff, reduceLT, reduceAdd, reduceMul, reduceSub, ↓reduceIte, reduceCtorEq, reduceLeDiff, reduceSubDiff, Nat.reduceBEq]) | (refine hN _ ?_ ?_ Wk.kk) | (with_reducible refine And.intro ?_ ?_) | (with_reducible omega) | (exact ok_ints) | (exact cells_ints) | (exact no_mem) | (with_reducible exact plain_ints) | (refine le_maxLen ?_; omega) | (refine List.forall_mem_cons.2 ⟨?_, ?_⟩) | (simp only [go_sem, Nat.reduceAdd, Nat.reduceLT, List.mem_cons, List.not_mem_nil, forall_eq]; done)))
    · rw [h5, if_pos h']
    · rw [if_neg (by omega)] at h5
      exact hN _ _ hlt ⟨by omega, by omega, h5⟩ (Wk.kk)
  · rw [List.drop_eq_nil_of_le (by omega), szL] at h5
    simp (disch := first | omega | decide +kernel) only [go_sem, reduceEqDiff, reduceLT, reduceAdd, reduceMul, reduceSub, ↓reduceIte, reduceCtorEq, reduceLeDiff, reduceSubDiff, Nat.reduceBEq]
    (repeat' (first | (refine gsel_split (fun h => ?_) (fun h => ?_) <;> (have h' := h) <;> (try simp only [decide_eq_true_eq, decide_eq_false_iff_not, Bool.not_eq_true', Bool.not_eq_false', bne_iff_ne, ne_eq, beq_iff_eq, bne_eq_false_iff_eq, beq_eq_false_iff_ne, Int.ofNat_lt, Int.ofNat_le, Int.not_lt, Int.not_le, Decidable.not_not, Bool.and_eq_true, Bool.or_eq_true, Bool.or_eq_false_iff, gt_iff_lt, ge_iff_le] at h') <;> simp (disch := first | omega | decide +kernel) only [h, go_sem, reduceEqDiff, reduceLT, reduceAdd, reduceMul, reduceSub, ↓reduceIte, reduceCtorEq, reduceLeDiff, reduceSubDiff, Nat.reduceBEq] <;> clear h) | ((first | refine hE _ _ ret_ne ?_ | refine hE _ _ exit_ne ?_) <;> try simp (disch := first | omega | decide +kernel) only [go_sem, reduceEqDiff, reduceLT, reduceAdd, reduceMul, reduceSub, ↓reduceIte, reduceCtorEq, reduceLeDiff, reduceSubDiff, Nat.reduceBEq]) | (refine hN _ ?_ ?_ Wk.kk) | (with_reducible refine And.intro ?_ ?_) | (with_reducible omega) | (exact ok_ints) | (exact cells_ints) | (exact no_mem) | (with_reducible exact plain_ints) | (refine le_maxLen ?_; omega) | (refine List.forall_mem_cons.2 ⟨?_, ?_⟩) | (simp only [go_sem, Nat.reduceAdd, Nat.reduceLT, List.mem_cons, List.not_mem_nil, forall_eq]; done)))
    · rw [h5]
end Abs.Y
