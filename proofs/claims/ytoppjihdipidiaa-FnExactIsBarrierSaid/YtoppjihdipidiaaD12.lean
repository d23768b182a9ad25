/- What functions of this program compute, as contracts over plain data, with what the proofs need of them. No condition. -/
import Derived.Test.YtoppjihdipidiaaD10
import Derived.Test.YtoppjihdipidiaaD5
import Derived.Test.YtoppjihdipidiaaC2
set_option linter.all false
namespace Abs.Y
open Go Go.Proofs Abs
open Nat (reduceEqDiff reduceLT reduceAdd reduceMul reduceSub reduceLeDiff reduceSubDiff)
set_option maxRecDepth 100000

theorem degreeOk_ok (d : Int) : Ctr Try.prog 73 [.int .i64 d] false (.d (.bool (degB d))) [] := by
  have c1 := within_ok d 0 6
  unfold degB
  refine Ctr.of (n := 5) (rs := [.tmp 2]) Try.func73 rfl rfl Try.ntmps73 rfl rfl (by kernel_rfl) Try.checked.mixed ?_
  simp (disch := first | omega | decide +kernel) only [go_sem, reduceEqDiff, reduceLT, reduceAdd, reduceMul, reduceSub, ↓reduceIte, reduceCtorEq, reduceLeDiff, reduceSubDiff, Nat.reduceBEq]
  (repeat' (first | (refine gsel_split (fun h => ?_) (fun h => ?_) <;> (have h' := h) <;> (try simp only [decide_eq_true_eq, decide_eq_false_iff_not, Bool.not_eq_true', Bool.not_eq_false', bne_iff_ne, ne_eq, beq_iff_eq, bne_eq_false_iff_eq, beq_eq_false_iff_ne, Int.ofNat_lt, Int.ofNat_le, Int.not_lt, Int.not_le, Decidable.not_not, Bool.and_eq_true, Bool.or_eq_true, Bool.or_eq_false_iff, gt_iff_lt, ge_iff_le] at h') <;> first | (exfalso; omega) | (simp (disch := first | omega | decide +kernel) only [h, go_sem, reduceEqDiff, reduceLT, reduceAdd, reduceMul, reduceSub, ↓reduceIte, reduceCtorEq, reduceLeDiff, reduceSubDiff, Nat.reduceBEq] <;> clear h)) | ((first | refine callX_new (c1) rfl (by decide) ?_ | refine callY_new (c1) rfl ?_ | refine hE _ _ ret_ne ?_ | refine hE _ _ exit_ne ?_) <;> try simp (disch := first | omega | decide +kernel) only [go_sem, reduceEqDiff, reduceLT, reduceAdd, reduceMul, reduceSub, ↓reduceIte, reduceCtorEq, reduceLeDiff, reduceSubDiff, Nat.reduceBEq]) | (refine hN _ ?_ ?_ Wk.kk) | (with_reducible refine And.intro ?_ ?_) | (with_reducible omega) | (exact ok_ints) | (exact cells_ints) | (exact no_mem) | (with_reducible exact plain_ints) | (refine le_maxLen ?_; omega) | (refine List.forall_mem_cons.2 ⟨?_, ?_⟩) | (simp only [go_sem, Nat.reduceAdd, Nat.reduceLT, List.mem_cons, List.not_mem_nil, forall_eq]; done)))
  all_goals (first | omega | trace_state)
theorem redQ_zero {p : Int} {u : Nat} {R M : List (List Int)} {many : Nat} {a : List Int} (hp : 0 < p) (h : Ech p (2 ^ u) ldG R) (ha : Vec p (2 ^ u) a) {t : Bool} (ht : t = true ↔ Sp p (2 ^ u) R a) : decide (degD (redQ p R M a many R.length).1 < 0) = t := by
  have h1 := (redQ_vec hp (M := M) (many := many) h.vec ha R.length (Nat.le_refl _)).1
  have h2 := redQ_red hp (M := M) (many := many) h.vec ha R.length (Nat.le_refl _)
  rw [List.take_length] at h2
  have key : degD (redQ p R M a many R.length).1 < 0 ↔ t = true := by
    rw [← deg_eq, degT_neg, spT_nil, ldI_neg, ← vec_zero_iff (p := p) h1.1, h2, red_iff hp ldG h.vec h.tri ha, ht]
  cases t with
  | true => exact decide_eq_true (key.2 rfl)
  | false => exact decide_eq_false fun e => by cases key.1 e
section
variable {p : Int} {u : Nat} (hp : 1 < p ∧ p ≤ 5) (hu : u ≤ 6)
include hp hu
theorem has_ok {R M : List (List Int)} {many : Nat} {a : List Int} (hP : EchP p u R M many) (h : Ech p (2 ^ u) ldG R) (ha : Vec p (2 ^ u) a) {t : Bool} (ht : t = true ↔ Sp p (2 ^ u) R a) :
    Ctr Try.prog 134 [.ints a, .ptr (.ptr (D.ech p u R M many))] false (.d (.bool t)) [] := by
  have h2 := pow_le6 hu
  have c1 := reduceD_ok hp hu hP ha
  have hv := (redQ_vec (p := p) (by omega) (M := M) (many := many) h.vec ha R.length (Nat.le_refl _)).1.1
  have hz := redQ_zero (M := M) (many := many) (by omega) h ha ht
  generalize (redQ p R M a many R.length).2 = md at *
  generalize (redQ p R M a many R.length).1 = rest at *
  have c2 := isZero_ok (v := rest) (by omega)
  rw [hz] at c2
  refine Ctr.of (n := 14) (rs := [.tmp 3]) Try.func134 rfl rfl Try.ntmps134 rfl rfl (by kernel_rfl) Try.checked.mixed ?_
  simp (disch := first | omega | decide +kernel) only [D.ints, go_sem, reduceEqDiff, reduceLT, reduceAdd, reduceMul, reduceSub, ↓reduceIte, reduceCtorEq, reduceLeDiff, reduceSubDiff, Nat.reduceBEq]
  (repeat' (first | (refine gsel_split (fun h => ?_) (fun h => ?_) <;> (have h' := h) <;> (try simp only [decide_eq_true_eq, decide_eq_false_iff_not, Bool.not_eq_true', Bool.not_eq_false', bne_iff_ne, ne_eq, beq_iff_eq, bne_eq_false_iff_eq, beq_eq_false_iff_ne, Int.ofNat_lt, Int.ofNat_le, Int.not_lt, Int.not_le, Decidable.not_not, Bool.and_eq_true, Bool.or_eq_true, Bool.or_eq_false_iff, gt_iff_lt, ge_iff_le] at h') <;> first | (exfalso; omega) | (simp (disch := first | omega | decide +kernel) only [h, D.ints, go_sem, reduceEqDiff, reduceLT, reduceAdd, reduceMul, reduceSub, ↓reduceIte, reduceCtorEq, reduceLeDiff, reduceSubDiff, Nat.reduceBEq] <;> clear h)) | ((first | refine callX_shared (c1) rfl (by decide) ?_ | refine callY_shared (c1) rfl ?_ | refine callX_new (c2) rfl (by decide) ?_ | refine callY_new (c2) rfl ?_ | refine hE _ _ ret_ne ?_ | refine hE _ _ exit_ne ?_) <;> try simp (disch := first | omega | decide +kernel) only [D.ints, go_sem, reduceEqDiff, reduceLT, reduceAdd, reduceMul, reduceSub, ↓reduceIte, reduceCtorEq, reduceLeDiff, reduceSubDiff, Nat.reduceBEq]) | (refine hN _ ?_ ?_ Wk.kk) | (with_reducible refine And.intro ?_ ?_) | (with_reducible omega) | (exact ok_ints) | (exact cells_ints) | (exact no_mem) | (with_reducible exact plain_ints) | (refine le_maxLen ?_; omega) | (refine List.forall_mem_cons.2 ⟨?_, ?_⟩) | (simp only [go_sem, Nat.reduceAdd, Nat.reduceLT, List.mem_cons, List.not_mem_nil, forall_eq]; done)))
  all_goals (first | omega | trace_state)
set_option maxHeartbeats 8000000 in
theorem liftedHas_ok {cs q : List (List Int)} {R M : List (List Int)} {many : Nat} (hP : EchP p u R M many) (h : Ech p (2 ^ u) ldG R) (d : Int) {t : Bool} (ht : t = true ↔ Closed p u d R) :
    Ctr Try.prog 135 [.ptr (D.alg p u cs q), .slice (R.map D.ints), .int .i64 d, .fn (.func 134) [] [.ptr (.ptr (D.ech p u R M many))]] false (.d (.bool t)) [] := by
  have h2 := pow_le6 hu
  have hbd := hP.bd
  have hbad := fun h => bool_of ht h
  refine Ctr.of (n := 49) (rs := [.tmp 8]) Try.func135 rfl rfl Try.ntmps135 rfl rfl (by kernel_rfl) Try.checked.mixed ?_
  simp (disch := first | omega | decide +kernel) only [D.ints, D.alg, go_sem, reduceEqDiff, reduceLT, reduceAdd, reduceMul, reduceSub, ↓reduceIte, reduceCtorEq, reduceLeDiff, reduceSubDiff, Nat.reduceBEq]
  (repeat' (first | (refine gsel_split (fun h => ?_) (fun h => ?_) <;> (have h' := h) <;> (try simp only [decide_eq_true_eq, decide_eq_false_iff_not, Bool.not_eq_true', Bool.not_eq_false', bne_iff_ne, ne_eq, beq_iff_eq, bne_eq_false_iff_eq, beq_eq_false_iff_ne, Int.ofNat_lt, Int.ofNat_le, Int.not_lt, Int.not_le, Decidable.not_not, Bool.and_eq_true, Bool.or_eq_true, Bool.or_eq_false_iff, gt_iff_lt, ge_iff_le] at h') <;> first | (exfalso; omega) | (simp (disch := first | omega | decide +kernel) only [h, D.ints, go_sem, reduceEqDiff, reduceLT, reduceAdd, reduceMul, reduceSub, ↓reduceIte, reduceCtorEq, reduceLeDiff, reduceSubDiff, Nat.reduceBEq] <;> clear h)) | ((first | refine hE _ _ ret_ne ?_ | refine hE _ _ exit_ne ?_) <;> try simp (disch := first | omega | decide +kernel) only [D.ints, go_sem, reduceEqDiff, reduceLT, reduceAdd, reduceMul, reduceSub, ↓reduceIte, reduceCtorEq, reduceLeDiff, reduceSubDiff, Nat.reduceBEq]) | (refine hN _ ?_ ?_ Wk.kk) | (with_reducible refine And.intro ?_ ?_) | (with_reducible omega) | (exact ok_ints) | (exact cells_ints) | (exact no_mem) | (with_reducible exact plain_ints) | (refine le_maxLen ?_; omega) | (refine List.forall_mem_cons.2 ⟨?_, ?_⟩) | (simp only [go_sem, Nat.reduceAdd, Nat.reduceLT, List.mem_cons, List.not_mem_nil, forall_eq]; done)))
  refine Ok.loopN [48, 47, 46, 45, 44, 43, 42, 41, 40, 39, 38, 37, 36, 35, 34, 33, 32, 31, 30, 29, 28, 27, 26, 25, 24, 23, 22, 21, 20, 19, 18, 17, 16, 15, 14, 11, 10, 9, 8, 7, 6, 5, 4, 1] (fun i (_ : Unit) => [(14, .d (.int .i64 (i : Nat)))]) (fun _ _ => []) R.length
    (fun i _ => ∀ a ∈ prods p u d (R.take i), Sp p (2 ^ u) R a) () (by simp [prods]) (by refine Wk.auto ?_ ?_ <;> simp [extraK, lk, killL, St.kill, wipeO, wipeS, AV.has, AV.hasL, AO.wipe, List.map_set, updSt, insL, dropS, ins, D.ints]) ?_
  rintro R2 i ⟨⟩ hN0 hE0 hi2 hI2
  by_cases hlt2 : i < R.length
  · have hpr := prods_succ p u d R hlt2
    have hrm : R.getD i [] ∈ R := getD_mem (z := ([] : List Int)) hlt2
    have hr := hP.vec _ hrm
    have hei := el_intss (xs := R) hlt2
    have c1 := degree_ok (v := R.getD i []) (by have := hr.1; omega)
    have hdb : -1 ≤ degD (R.getD i []) ∧ degD (R.getD i []) ≤ 6 := by rw [← deg_eq]; exact degT_bd _
    have hpk := prodsK_all (p := p) (u := u) (d := d) (r := R.getD i [])
    have hpn : ¬ degD (R.getD i []) < d → prodsR p u d (R.getD i []) = [] := fun h => by unfold prodsR; rw [if_neg h]
    have hmem : degD (R.getD i []) < d → ∀ x : Int, 1 ≤ x → x ≤ u → mulX p u (R.getD i []) x ∈ prods p u d R := fun h x h1 h2 => prods_mem.2 ⟨_, hrm, h, x, h1, h2, rfl⟩
    generalize R.getD i [] = r at *
    by_cases hdr : degD r < d
    · rw [← hpk hdr] at hpr
      have hmem2 := hmem hdr
      clear hpk hpn hmem
      have hX : ∀ x, Vec p (2 ^ u) (mulX p u r x) := fun x => Vec.mulD (by omega) _ _ _
      have hT : ∀ x, Ctr Try.prog 143 [D.ring p u, .ints r, .ints (litD p u x)] true (.d (.ints (mulX p u r x))) [] := fun x => Ctr.data1 (times_ok hp hu hr (Vec.lit hp.1 u x))
      generalize degD r = dr at *
      simp (disch := first | omega | decide +kernel) only [D.ints, hei, go_sem, reduceEqDiff, reduceLT, reduceAdd, reduceMul, reduceSub, ↓reduceIte, reduceCtorEq, reduceLeDiff, reduceSubDiff, Nat.reduceBEq]
      (repeat' (first | (refine gsel_split (fun h => ?_) (fun h => ?_) <;> (have h' := h) <;> (try simp only [decide_eq_true_eq, decide_eq_false_iff_not, Bool.not_eq_true', Bool.not_eq_false', bne_iff_ne, ne_eq, beq_iff_eq, bne_eq_false_iff_eq, beq_eq_false_iff_ne, Int.ofNat_lt, Int.ofNat_le, Int.not_lt, Int.not_le, Decidable.not_not, Bool.and_eq_true, Bool.or_eq_true, Bool.or_eq_false_iff, gt_iff_lt, ge_iff_le] at h') <;> first | (exfalso; omega) | (simp (disch := first | omega | decide +kernel) only [h, D.ints, hei, go_sem, reduceEqDiff, reduceLT, reduceAdd, reduceMul, reduceSub, ↓reduceIte, reduceCtorEq, reduceLeDiff, reduceSubDiff, Nat.reduceBEq] <;> clear h)) | ((first | refine hE _ _ ret_ne ?_ | refine hE _ _ exit_ne ?_) <;> try simp (disch := first | omega | decide +kernel) only [D.ints, hei, go_sem, reduceEqDiff, reduceLT, reduceAdd, reduceMul, reduceSub, ↓reduceIte, reduceCtorEq, reduceLeDiff, reduceSubDiff, Nat.reduceBEq]) | (refine hN _ ?_ ?_ Wk.kk) | (with_reducible refine And.intro ?_ ?_) | (with_reducible omega) | (exact ok_ints) | (exact cells_ints) | (exact no_mem) | (with_reducible exact plain_ints) | (refine le_maxLen ?_; omega) | (refine List.forall_mem_cons.2 ⟨?_, ?_⟩) | (simp only [go_sem, Nat.reduceAdd, Nat.reduceLT, List.mem_cons, List.not_mem_nil, forall_eq]; done)))
      all_goals (first | omega | skip)
      refine Ok.loopN [47, 46, 45, 44, 43, 42, 41, 40, 39, 38, 37, 36, 35, 34, 33, 32, 31, 30, 29, 28, 27, 26, 25, 24, 23, 22, 21, 20, 19, 18, 11, 9, 8, 7, 6, 5, 4, 1] (fun j (_ : Unit) => [(11, .d (.int .i64 ((j : Nat) + 1 : Int)))]) (fun _ _ => []) u
        (fun j _ => ∀ a ∈ prodsK p u r j, Sp p (2 ^ u) R a) () (by simp [prodsK]) (by refine Wk.auto ?_ ?_ <;> simp [extraK, lk, killL, St.kill, wipeO, wipeS, AV.has, AV.hasL, AO.wipe, List.map_set, updSt, insL, dropS, ins, D.ints]) ?_
      rintro R3 j ⟨⟩ hN hE hj hI3
      by_cases hjt : j < u
      · have hk := prodsK_succ p u r j
        have c2 := literal_ok hp hu (l := (j : Int) + 1) (by unfold LitU; omega)
        have c3 := hT ((j : Int) + 1)
        have hXj := hX ((j : Int) + 1)
        have hm := hmem2 ((j : Int) + 1) (by omega) (by omega)
        generalize mulX p u r ((j : Int) + 1) = w at *
        generalize litD p u ((j : Int) + 1) = lt at *
        obtain ⟨b, hb⟩ : ∃ b : Bool, b = true ↔ Sp p (2 ^ u) R w := ⟨@decide _ (Classical.propDecidable (Sp p (2 ^ u) R w)), by simp⟩
        have c4 := has_ok hp hu hP h hXj hb
        cases b with
        | true =>
          have hI4 : ∀ a ∈ prodsK p u r (j + 1), Sp p (2 ^ u) R a := fun a ha => by
            rw [hk] at ha
            rcases List.mem_append.1 ha with h1 | h1
            · exact hI3 a h1
            · rw [List.mem_singleton.1 h1]; exact hb.1 rfl
          clear hI2 hI3 ht hbad hT hX hmem2 hb
          simp (disch := first | omega | decide +kernel) only [D.ints, hei, go_sem, reduceEqDiff, reduceLT, reduceAdd, reduceMul, reduceSub, ↓reduceIte, reduceCtorEq, reduceLeDiff, reduceSubDiff, Nat.reduceBEq]
          (repeat' (first | (refine gsel_split (fun h => ?_) (fun h => ?_) <;> (have h' := h) <;> (try simp only [decide_eq_true_eq, decide_eq_false_iff_not, Bool.not_eq_true', Bool.not_eq_false', bne_iff_ne, ne_eq, beq_iff_eq, bne_eq_false_iff_eq, beq_eq_false_iff_ne, Int.ofNat_lt, Int.ofNat_le, Int.not_lt, Int.not_le, Decidable.not_not, Bool.and_eq_true, Bool.or_eq_true, Bool.or_eq_false_iff, gt_iff_lt, ge_iff_le] at h') <;> first | (exfalso; omega) | (simp (disch := first | omega | decide +kernel) only [h, D.ints, hei, go_sem, reduceEqDiff, reduceLT, reduceAdd, reduceMul, reduceSub, ↓reduceIte, reduceCtorEq, reduceLeDiff, reduceSubDiff, Nat.reduceBEq] <;> clear h)) | ((first | refine callX_new (c1) rfl (by decide) ?_ | refine callY_new (c1) rfl ?_ | refine callX_shared (c2) rfl (by decide) ?_ | refine callY_shared (c2) rfl ?_ | refine callX_shared (c3) rfl (by decide) ?_ | refine callY_shared (c3) rfl ?_ | refine callX_new (c4) rfl (by decide) ?_ | refine callY_new (c4) rfl ?_ | refine hE _ _ ret_ne ?_ | refine hE _ _ exit_ne ?_) <;> try simp (disch := first | omega | decide +kernel) only [D.ints, hei, go_sem, reduceEqDiff, reduceLT, reduceAdd, reduceMul, reduceSub, ↓reduceIte, reduceCtorEq, reduceLeDiff, reduceSubDiff, Nat.reduceBEq]) | (refine hN _ ?_ ?_ Wk.kk) | (with_reducible refine And.intro ?_ ?_) | (with_reducible omega) | (exact ok_ints) | (exact cells_ints) | (exact no_mem) | (with_reducible exact plain_ints) | (refine le_maxLen ?_; omega) | (refine List.forall_mem_cons.2 ⟨?_, ?_⟩) | (simp only [go_sem, Nat.reduceAdd, Nat.reduceLT, List.mem_cons, List.not_mem_nil, forall_eq]; done)))
          all_goals (first | omega | (refine hN () _ hjt hI4 (by refine Wk.auto ?_ ?_ <;> simp [extraK, lk, killL, St.kill, wipeO, wipeS, AV.has, AV.hasL, AO.wipe, List.map_set, updSt, insL, dropS, ins, D.ints]); done) | trace_state)
        | false =>
          have hb2 : t = false := hbad fun hc => by cases hb.2 (hc _ hm)
          rw [hb2] at hE0
          clear hI2 hI3 ht hbad hT hX hmem2 hb
          simp (disch := first | omega | decide +kernel) only [D.ints, hei, go_sem, reduceEqDiff, reduceLT, reduceAdd, reduceMul, reduceSub, ↓reduceIte, reduceCtorEq, reduceLeDiff, reduceSubDiff, Nat.reduceBEq]
          (repeat' (first | (refine gsel_split (fun h => ?_) (fun h => ?_) <;> (have h' := h) <;> (try simp only [decide_eq_true_eq, decide_eq_false_iff_not, Bool.not_eq_true', Bool.not_eq_false', bne_iff_ne, ne_eq, beq_iff_eq, bne_eq_false_iff_eq, beq_eq_false_iff_ne, Int.ofNat_lt, Int.ofNat_le, Int.not_lt, Int.not_le, Decidable.not_not, Bool.and_eq_true, Bool.or_eq_true, Bool.or_eq_false_iff, gt_iff_lt, ge_iff_le] at h') <;> first | (exfalso; omega) | (simp (disch := first | omega | decide +kernel) only [h, D.ints, hei, go_sem, reduceEqDiff, reduceLT, reduceAdd, reduceMul, reduceSub, ↓reduceIte, reduceCtorEq, reduceLeDiff, reduceSubDiff, Nat.reduceBEq] <;> clear h)) | ((first | refine callX_new (c1) rfl (by decide) ?_ | refine callY_new (c1) rfl ?_ | refine callX_shared (c2) rfl (by decide) ?_ | refine callY_shared (c2) rfl ?_ | refine callX_shared (c3) rfl (by decide) ?_ | refine callY_shared (c3) rfl ?_ | refine callX_new (c4) rfl (by decide) ?_ | refine callY_new (c4) rfl ?_ | refine hE _ _ ret_ne ?_ | refine hE _ _ exit_ne ?_) <;> try simp (disch := first | omega | decide +kernel) only [D.ints, hei, go_sem, reduceEqDiff, reduceLT, reduceAdd, reduceMul, reduceSub, ↓reduceIte, reduceCtorEq, reduceLeDiff, reduceSubDiff, Nat.reduceBEq]) | (refine hN _ ?_ ?_ Wk.kk) | (with_reducible refine And.intro ?_ ?_) | (with_reducible omega) | (exact ok_ints) | (exact cells_ints) | (exact no_mem) | (with_reducible exact plain_ints) | (refine le_maxLen ?_; omega) | (refine List.forall_mem_cons.2 ⟨?_, ?_⟩) | (simp only [go_sem, Nat.reduceAdd, Nat.reduceLT, List.mem_cons, List.not_mem_nil, forall_eq]; done)))
          all_goals (first | omega | (refine hE0 _ _ ret_ne ?_; simp (disch := first | omega | decide +kernel) only [go_sem, reduceEqDiff, reduceLT, reduceAdd, reduceMul, reduceSub, ↓reduceIte, reduceCtorEq, reduceLeDiff, reduceSubDiff, Nat.reduceBEq]; done) | trace_state)
      · obtain rfl : u = j := by omega
        have hI4 : ∀ a ∈ prods p u d (R.take (i + 1)), Sp p (2 ^ u) R a := fun a ha => by
          rw [hpr] at ha
          rcases List.mem_append.1 ha with h1 | h1
          · exact hI2 a h1
          · exact hI3 a h1
        clear hI2 hI3 ht hbad hT hX hmem2
        simp (disch := first | omega | decide +kernel) only [D.ints, hei, go_sem, reduceEqDiff, reduceLT, reduceAdd, reduceMul, reduceSub, ↓reduceIte, reduceCtorEq, reduceLeDiff, reduceSubDiff, Nat.reduceBEq]
        (repeat' (first | (refine gsel_split (fun h => ?_) (fun h => ?_) <;> (have h' := h) <;> (try simp only [decide_eq_true_eq, decide_eq_false_iff_not, Bool.not_eq_true', Bool.not_eq_false', bne_iff_ne, ne_eq, beq_iff_eq, bne_eq_false_iff_eq, beq_eq_false_iff_ne, Int.ofNat_lt, Int.ofNat_le, Int.not_lt, Int.not_le, Decidable.not_not, Bool.and_eq_true, Bool.or_eq_true, Bool.or_eq_false_iff, gt_iff_lt, ge_iff_le] at h') <;> first | (exfalso; omega) | (simp (disch := first | omega | decide +kernel) only [h, D.ints, hei, go_sem, reduceEqDiff, reduceLT, reduceAdd, reduceMul, reduceSub, ↓reduceIte, reduceCtorEq, reduceLeDiff, reduceSubDiff, Nat.reduceBEq] <;> clear h)) | ((first | refine callX_new (c1) rfl (by decide) ?_ | refine callY_new (c1) rfl ?_ | refine hE _ _ ret_ne ?_ | refine hE _ _ exit_ne ?_) <;> try simp (disch := first | omega | decide +kernel) only [D.ints, hei, go_sem, reduceEqDiff, reduceLT, reduceAdd, reduceMul, reduceSub, ↓reduceIte, reduceCtorEq, reduceLeDiff, reduceSubDiff, Nat.reduceBEq]) | (refine hN _ ?_ ?_ Wk.kk) | (with_reducible refine And.intro ?_ ?_) | (with_reducible omega) | (exact ok_ints) | (exact cells_ints) | (exact no_mem) | (with_reducible exact plain_ints) | (refine le_maxLen ?_; omega) | (refine List.forall_mem_cons.2 ⟨?_, ?_⟩) | (simp only [go_sem, Nat.reduceAdd, Nat.reduceLT, List.mem_cons, List.not_mem_nil, forall_eq]; done)))
        all_goals (first | omega | (refine hN0 () _ hlt2 hI4 (by refine Wk.auto ?_ ?_ <;> simp [extraK, lk, killL, St.kill, wipeO, wipeS, AV.has, AV.hasL, AO.wipe, List.map_set, updSt, insL, dropS, ins, D.ints]); done) | trace_state)
    · rw [hpn hdr, List.append_nil] at hpr
      rw [← hpr] at hI2
      clear hpk hpn hmem
      generalize degD r = dr at *
      simp (disch := first | omega | decide +kernel) only [D.ints, hei, go_sem, reduceEqDiff, reduceLT, reduceAdd, reduceMul, reduceSub, ↓reduceIte, reduceCtorEq, reduceLeDiff, reduceSubDiff, Nat.reduceBEq]
      (repeat' (first | (refine gsel_split (fun h => ?_) (fun h => ?_) <;> (have h' := h) <;> (try simp only [decide_eq_true_eq, decide_eq_false_iff_not, Bool.not_eq_true', Bool.not_eq_false', bne_iff_ne, ne_eq, beq_iff_eq, bne_eq_false_iff_eq, beq_eq_false_iff_ne, Int.ofNat_lt, Int.ofNat_le, Int.not_lt, Int.not_le, Decidable.not_not, Bool.and_eq_true, Bool.or_eq_true, Bool.or_eq_false_iff, gt_iff_lt, ge_iff_le] at h') <;> first | (exfalso; omega) | (simp (disch := first | omega | decide +kernel) only [h, D.ints, hei, go_sem, reduceEqDiff, reduceLT, reduceAdd, reduceMul, reduceSub, ↓reduceIte, reduceCtorEq, reduceLeDiff, reduceSubDiff, Nat.reduceBEq] <;> clear h)) | ((first | refine hE _ _ ret_ne ?_ | refine hE _ _ exit_ne ?_) <;> try simp (disch := first | omega | decide +kernel) only [D.ints, hei, go_sem, reduceEqDiff, reduceLT, reduceAdd, reduceMul, reduceSub, ↓reduceIte, reduceCtorEq, reduceLeDiff, reduceSubDiff, Nat.reduceBEq]) | (refine hN _ ?_ ?_ Wk.kk) | (with_reducible refine And.intro ?_ ?_) | (with_reducible omega) | (exact ok_ints) | (exact cells_ints) | (exact no_mem) | (with_reducible exact plain_ints) | (refine le_maxLen ?_; omega) | (refine List.forall_mem_cons.2 ⟨?_, ?_⟩) | (simp only [go_sem, Nat.reduceAdd, Nat.reduceLT, List.mem_cons, List.not_mem_nil, forall_eq]; done)))
      all_goals (first | omega | skip)
      refine Ok.loopN [47, 46, 45, 44, 43, 42, 41, 40, 39, 38, 37, 36, 35, 34, 33, 32, 31, 30, 29, 28, 27, 26, 25, 24, 23, 22, 21, 20, 19, 18, 11, 9, 8, 7, 6, 5, 4, 1] (fun j (_ : Unit) => [(11, .d (.int .i64 ((j : Nat) + 1 : Int)))]) (fun _ _ => []) 1
        (fun j _ => j = 0) () rfl (by refine Wk.auto ?_ ?_ <;> simp [extraK, lk, killL, St.kill, wipeO, wipeS, AV.has, AV.hasL, AO.wipe, List.map_set, updSt, insL, dropS, ins, D.ints]) ?_
      rintro R3 j ⟨⟩ hN hE hj hj0
      subst hj0
      clear hN
      simp (disch := first | omega | decide +kernel) only [D.ints, hei, go_sem, reduceEqDiff, reduceLT, reduceAdd, reduceMul, reduceSub, ↓reduceIte, reduceCtorEq, reduceLeDiff, reduceSubDiff, Nat.reduceBEq]
      (repeat' (first | (refine gsel_split (fun h => ?_) (fun h => ?_) <;> (have h' := h) <;> (try simp only [decide_eq_true_eq, decide_eq_false_iff_not, Bool.not_eq_true', Bool.not_eq_false', bne_iff_ne, ne_eq, beq_iff_eq, bne_eq_false_iff_eq, beq_eq_false_iff_ne, Int.ofNat_lt, Int.ofNat_le, Int.not_lt, Int.not_le, Decidable.not_not, Bool.and_eq_true, Bool.or_eq_true, Bool.or_eq_false_iff, gt_iff_lt, ge_iff_le] at h') <;> first | (exfalso; omega) | (simp (disch := first | omega | decide +kernel) only [h, D.ints, hei, go_sem, reduceEqDiff, reduceLT, reduceAdd, reduceMul, reduceSub, ↓reduceIte, reduceCtorEq, reduceLeDiff, reduceSubDiff, Nat.reduceBEq] <;> clear h)) | ((first | refine callX_new (c1) rfl (by decide) ?_ | refine callY_new (c1) rfl ?_ | refine hE _ _ ret_ne ?_ | refine hE _ _ exit_ne ?_) <;> try simp (disch := first | omega | decide +kernel) only [D.ints, hei, go_sem, reduceEqDiff, reduceLT, reduceAdd, reduceMul, reduceSub, ↓reduceIte, reduceCtorEq, reduceLeDiff, reduceSubDiff, Nat.reduceBEq]) | (refine hN _ ?_ ?_ Wk.kk) | (with_reducible refine And.intro ?_ ?_) | (with_reducible omega) | (exact ok_ints) | (exact cells_ints) | (exact no_mem) | (with_reducible exact plain_ints) | (refine le_maxLen ?_; omega) | (refine List.forall_mem_cons.2 ⟨?_, ?_⟩) | (simp only [go_sem, Nat.reduceAdd, Nat.reduceLT, List.mem_cons, List.not_mem_nil, forall_eq]; done)))
      all_goals (first | omega | (refine hN0 () _ hlt2 hI2 (by refine Wk.auto ?_ ?_ <;> simp [extraK, lk, killL, St.kill, wipeO, wipeS, AV.has, AV.hasL, AO.wipe, List.map_set, updSt, insL, dropS, ins, D.ints]); done) | trace_state)
  · obtain rfl : i = R.length := by omega
    rw [List.take_length] at hI2
    have hE := hE0
    have hb2 : t = true := ht.2 hI2
    rw [hb2] at hE
    simp (disch := first | omega | decide +kernel) only [D.ints, go_sem, reduceEqDiff, reduceLT, reduceAdd, reduceMul, reduceSub, ↓reduceIte, reduceCtorEq, reduceLeDiff, reduceSubDiff, Nat.reduceBEq]
    (repeat' (first | (refine gsel_split (fun h => ?_) (fun h => ?_) <;> (have h' := h) <;> (try simp only [decide_eq_true_eq, decide_eq_false_iff_not, Bool.not_eq_true', Bool.not_eq_false', bne_iff_ne, ne_eq, beq_iff_eq, bne_eq_false_iff_eq, beq_eq_false_iff_ne, Int.ofNat_lt, Int.ofNat_le, Int.not_lt, Int.not_le, Decidable.not_not, Bool.and_eq_true, Bool.or_eq_true, Bool.or_eq_false_iff, gt_iff_lt, ge_iff_le] at h') <;> first | (exfalso; omega) | (simp (disch := first | omega | decide +kernel) only [h, D.ints, go_sem, reduceEqDiff, reduceLT, reduceAdd, reduceMul, reduceSub, ↓reduceIte, reduceCtorEq, reduceLeDiff, reduceSubDiff, Nat.reduceBEq] <;> clear h)) | ((first | refine hE _ _ ret_ne ?_ | refine hE _ _ exit_ne ?_) <;> try simp (disch := first | omega | decide +kernel) only [D.ints, go_sem, reduceEqDiff, reduceLT, reduceAdd, reduceMul, reduceSub, ↓reduceIte, reduceCtorEq, reduceLeDiff, reduceSubDiff, Nat.reduceBEq]) | (refine hN _ ?_ ?_ Wk.kk) | (with_reducible refine And.intro ?_ ?_) | (with_reducible omega) | (exact ok_ints) | (exact cells_ints) | (exact no_mem) | (with_reducible exact plain_ints) | (refine le_maxLen ?_; omega) | (refine List.forall_mem_cons.2 ⟨?_, ?_⟩) | (simp only [go_sem, Nat.reduceAdd, Nat.reduceLT, List.mem_cons, List.not_mem_nil, forall_eq]; done)))
    all_goals (first | omega | trace_state)
end
end Abs.Y

namespace Abs.Y
open Go Go.Proofs Abs
open Nat (reduceEqDiff reduceLT reduceAdd reduceMul reduceSub reduceLeDiff reduceSubDiff)
set_option maxRecDepth 100000

def degC (cs : List (List Int)) (list : List (List (Int × Int))) (k : Nat) : Int :=
  (List.range k).foldl (fun d i => if list.getD i [] = [] then d else max d (degT (list.getD i []) + ((cs.getD i []).length : Int))) 0
def certB (p v : Int) (cs : List (List Int)) (list : List (List (Int × Int))) : Bool := goodL p v cs list && decide (sumC p v.toNat cs list list.length = monoD v.toNat 0)
def certV (p v : Int) (cs : List (List Int)) (list : List (List (Int × Int))) : Int := if certB p v cs list then degC cs list list.length else 0
end Abs.Y

namespace Abs.Y
open Go Go.Proofs Abs
open Nat (reduceEqDiff reduceLT reduceAdd reduceMul reduceSub reduceLeDiff reduceSubDiff)
set_option maxRecDepth 100000

theorem getD_mapz {α β : Type} (f : α → β) (z : α) (z' : β) (l : List α) {i : Nat} (h : i < l.length) : (l.map f).getD i z' = f (l.getD i z) := by
  simp only [List.getD_eq_getElem?_getD, List.getElem?_map, List.getElem?_eq_getElem h, Option.map_some, Option.getD_some]
end Abs.Y

namespace Abs.Y
open Go Go.Proofs Abs
open Nat (reduceEqDiff reduceLT reduceAdd reduceMul reduceSub reduceLeDiff reduceSubDiff)
set_option maxRecDepth 100000

theorem bool_ex (P : Prop) : ∃ b : Bool, b = true ↔ P := by
  by_cases h : P
  · exact ⟨true, by simp [h]⟩
  · exact ⟨false, by simp [h]⟩
@[reducible] def echN (k0 k1 k2 : Nat) (p : Int) (u : Nat) (e : EchS) : List (Nat × AO) :=
  [(k2, .dp (some (92, 1)) (e.M.map D.ints) none), (k1, .arr 92 1 (e.R.map D.ints)), (k0, .box 147 [.d (.int .i64 p), .d (.int .i64 u), .sl k1, .sl k2, .d (.int .i64 (e.many : Nat))])]
section
variable {p : Int} {u : Nat} (hp : p = 2 ∨ p = 3 ∨ p = 5) (hu : u ≤ 6)
def echL (L : List (List Int)) : EchS := L.foldl (fun e a => addE p u e a) ⟨[], [], 0⟩
include hp hu
theorem echL_ok {L : List (List Int)} (hL : AllV p (2 ^ u) L) : EchI p u (echL (p := p) (u := u) L) ∧ SpEq p (2 ^ u) (echL (p := p) (u := u) L).R L := by
  have key : ∀ (L : List (List Int)) (e : EchS), EchI p u e → AllV p (2 ^ u) L → EchI p u (L.foldl (fun e a => addE p u e a) e) ∧ SpEq p (2 ^ u) (L.foldl (fun e a => addE p u e a) e).R (e.R ++ L) := by
    intro L
    induction L with
    | nil => exact fun e h _ => ⟨h, by rw [List.append_nil]; exact fun v => Iff.rfl⟩
    | cons a L ih =>
      intro e h hL
      have ha := hL a (by simp)
      have hL' : AllV p (2 ^ u) L := fun x hx => hL x (by simp [hx])
      obtain ⟨h1, h2, _⟩ := addE_ok hp hu h ha
      obtain ⟨i1, i2⟩ := ih _ h1 hL'
      have ha1 : AllV p (2 ^ u) [a] := fun x hx => by rw [List.mem_singleton.1 hx]; exact ha
      refine ⟨i1, i2.trans ?_⟩
      have := SpEq.app (p := p) (by omega) L h1.ech.vec (h.ech.vec.app ha1) hL' h2
      rwa [List.append_assoc, List.singleton_append] at this
  exact key L ⟨[], [], 0⟩ EchI.nil hL
set_option maxHeartbeats 16000000 in
theorem barrier_ok {cs : List (List Int)} (hok : okCnf u cs = true) (hcl : cs.length ≤ 1048576) (hc : ∀ j, (cs.getD j []).length ≤ 1048576) {d : Int} (hd : 0 ≤ d ∧ d ≤ 6) {L : List (List Int)} (hL : AllV p (2 ^ u) L) (hLl : L.length ≤ 64) {t : Bool} (ht : t = true ↔ Barr p u d cs L (echL (p := p) (u := u) L).R) :
    Ctr Try.prog 75 [.ptr (D.alg p u cs (cs.map (clauseD p u))), .int .i64 d, .slice (L.map D.ints)] false (.d (.bool t)) [] := by
  have h2 := pow_le6 hu
  have hp1 : 1 < p ∧ p ≤ 5 := by omega
  have hbad := fun h => bool_of ht h
  refine Ctr.of (n := 80) (rs := [.tmp 6]) Try.func75 rfl rfl Try.ntmps75 rfl rfl (by kernel_rfl) Try.checked.mixed ?_
  simp (disch := first | omega | decide +kernel) only [D.ints, D.alg, go_sem, reduceEqDiff, reduceLT, reduceAdd, reduceMul, reduceSub, ↓reduceIte, reduceCtorEq, reduceLeDiff, reduceSubDiff, Nat.reduceBEq]
  (repeat' (first | (refine gsel_split (fun h => ?_) (fun h => ?_) <;> (have h' := h) <;> (try simp only [decide_eq_true_eq, decide_eq_false_iff_not, Bool.not_eq_true', Bool.not_eq_false', bne_iff_ne, ne_eq, beq_iff_eq, bne_eq_false_iff_eq, beq_eq_false_iff_ne, Int.ofNat_lt, Int.ofNat_le, Int.not_lt, Int.not_le, Decidable.not_not, Bool.and_eq_true, Bool.or_eq_true, Bool.or_eq_false_iff, gt_iff_lt, ge_iff_le] at h') <;> first | (exfalso; omega) | (simp (disch := first | omega | decide +kernel) only [h, D.ints, go_sem, reduceEqDiff, reduceLT, reduceAdd, reduceMul, reduceSub, ↓reduceIte, reduceCtorEq, reduceLeDiff, reduceSubDiff, Nat.reduceBEq] <;> clear h)) | ((first | refine hE _ _ ret_ne ?_ | refine hE _ _ exit_ne ?_) <;> try simp (disch := first | omega | decide +kernel) only [D.ints, go_sem, reduceEqDiff, reduceLT, reduceAdd, reduceMul, reduceSub, ↓reduceIte, reduceCtorEq, reduceLeDiff, reduceSubDiff, Nat.reduceBEq]) | (refine hN _ ?_ ?_ Wk.kk) | (with_reducible refine And.intro ?_ ?_) | (with_reducible omega) | (exact ok_ints) | (exact cells_ints) | (exact no_mem) | (with_reducible exact plain_ints) | (refine le_maxLen ?_; omega) | (refine List.forall_mem_cons.2 ⟨?_, ?_⟩) | (simp only [go_sem, Nat.reduceAdd, Nat.reduceLT, List.mem_cons, List.not_mem_nil, forall_eq]; done)))
  refine Ok.loopN [79, 78, 77, 76, 75, 74, 73, 72, 71, 70, 69, 68, 67, 66, 65, 64, 63, 62, 61, 60, 59, 58, 57, 56, 55, 54, 53, 52, 51, 50, 49, 48, 47, 46, 45, 44, 43, 42, 41, 40, 39, 38, 37, 36, 35, 34, 33, 32, 31, 30, 29, 28, 27, 26, 25, 24, 23, 22, 21, 18, 17, 16, 15, 14, 13, 12, 11, 10, 9, 8, 5, 4, 3] (fun i (_ : EchS) => [(21, .d (.int .i64 (i : Nat)))]) (fun _ (e : EchS) => echN 18 900000001 900000002 p u e) L.length
    (fun i e => EchI p u e ∧ e = echL (p := p) (u := u) (L.take i) ∧ ∀ a ∈ L.take i, degD a ≤ d) ⟨[], [], 0⟩ ⟨EchI.nil, rfl, by simp⟩
    ((Wk.nilObj 900000001 18 2 rfl rfl (by simp) (by decide) (e := 92) (k := 1) (by decide)).trans ((Wk.nilObj 900000002 18 3 (by simp (disch := first | omega | decide +kernel) only [setL, go_sem, reduceEqDiff, reduceLT, reduceAdd, reduceMul, reduceSub, ↓reduceIte, reduceCtorEq, reduceLeDiff, reduceSubDiff, Nat.reduceBEq]; rfl) rfl (by simp [setL]) (by decide) (e := 92) (k := 1) (by decide)).trans
      ((Wk.deep 900000002 (by simp (disch := first | omega | decide +kernel) only [setL, go_sem, reduceEqDiff, reduceLT, reduceAdd, reduceMul, reduceSub, ↓reduceIte, reduceCtorEq, reduceLeDiff, reduceSubDiff, Nat.reduceBEq]; rfl) (by simp [flat])).trans (by refine Wk.auto ?_ ?_ <;> simp [extraK, lk, killL, St.kill, wipeO, wipeS, AV.has, AV.hasL, AO.wipe, List.map_set, updSt, insL, dropS, ins, setL, D.ints])))) ?_
  rintro R0 i e hN hE hi ⟨he, hes, hdg⟩
  by_cases hlt : i < L.length
  · have hrm : L.getD i [] ∈ L := getD_mem (z := ([] : List Int)) hlt
    have hr := hL _ hrm
    have hei := el_intss (xs := L) hlt
    have c1 := degree_ok (v := L.getD i []) (by have := hr.1; omega)
    have hdb : -1 ≤ degD (L.getD i []) ∧ degD (L.getD i []) ≤ 6 := by rw [← deg_eq]; exact degT_bd _
    have hts := take_succ [] L i hlt
    have hs2 : addE p u e (L.getD i []) = echL (p := p) (u := u) (L.take (i + 1)) := by
      rw [hts, echL, List.foldl_append]; change addE p u e (L.getD i []) = addE p u (echL (L.take i)) (L.getD i []); rw [← hes]
    have he2 := (addE_ok hp hu he hr).1
    have c2 := echAdd_ok hp hu he hr
    have hbd : ¬ degD (L.getD i []) ≤ d → t = false := fun h => hbad fun hb => h (hb.1 _ hrm)
    have hdg2 : degD (L.getD i []) ≤ d → ∀ a ∈ L.take (i + 1), degD a ≤ d := fun h a ha => by
      rw [hts] at ha
      rcases List.mem_append.1 ha with h1 | h1
      · exact hdg a h1
      · rw [List.mem_singleton.1 h1]; exact h
    clear hes hdg hbad ht hts
    generalize addE p u e (L.getD i []) = e2 at *
    generalize (!decide (ldI (restE p e (L.getD i [])) < 0)) = b at *
    generalize degD (L.getD i []) = dr at *
    generalize L.getD i [] = r at *
    by_cases hle : dr ≤ d
    · simp (disch := first | omega | decide +kernel) only [D.ints, hei, go_sem, reduceEqDiff, reduceLT, reduceAdd, reduceMul, reduceSub, ↓reduceIte, reduceCtorEq, reduceLeDiff, reduceSubDiff, Nat.reduceBEq]
      (repeat' (first | (refine gsel_split (fun h => ?_) (fun h => ?_) <;> (have h' := h) <;> (try simp only [decide_eq_true_eq, decide_eq_false_iff_not, Bool.not_eq_true', Bool.not_eq_false', bne_iff_ne, ne_eq, beq_iff_eq, bne_eq_false_iff_eq, beq_eq_false_iff_ne, Int.ofNat_lt, Int.ofNat_le, Int.not_lt, Int.not_le, Decidable.not_not, Bool.and_eq_true, Bool.or_eq_true, Bool.or_eq_false_iff, gt_iff_lt, ge_iff_le] at h') <;> first | (exfalso; omega) | (simp (disch := first | omega | decide +kernel) only [h, D.ints, hei, go_sem, reduceEqDiff, reduceLT, reduceAdd, reduceMul, reduceSub, ↓reduceIte, reduceCtorEq, reduceLeDiff, reduceSubDiff, Nat.reduceBEq] <;> clear h)) | ((first | refine callX_mut [18, 900000001, 900000002] [18, 900000001, 900000002] [900000001, 900000002] (c2) ⟨.inl rfl, .inl rfl, trivial⟩ ⟨rfl, rfl, rfl, trivial⟩ rfl (by simp [dstB]) ?_ | refine callX_new (c1) rfl (by decide) ?_ | refine callY_new (c1) rfl ?_ | refine hE _ _ ret_ne ?_ | refine hE _ _ exit_ne ?_) <;> try simp (disch := first | omega | decide +kernel) only [D.ints, hei, go_sem, reduceEqDiff, reduceLT, reduceAdd, reduceMul, reduceSub, ↓reduceIte, reduceCtorEq, reduceLeDiff, reduceSubDiff, Nat.reduceBEq]) | (refine hN _ ?_ ?_ Wk.kk) | (with_reducible refine And.intro ?_ ?_) | (with_reducible omega) | (exact ok_ints) | (exact cells_ints) | (exact no_mem) | (with_reducible exact plain_ints) | (refine le_maxLen ?_; omega) | (refine List.forall_mem_cons.2 ⟨?_, ?_⟩) | (simp only [go_sem, Nat.reduceAdd, Nat.reduceLT, List.mem_cons, List.not_mem_nil, forall_eq]; done)))
      all_goals (first | omega | (refine hN e2 _ hlt ⟨he2, hs2, hdg2 hle⟩ (by refine Wk.auto ?_ ?_ <;> simp [extraK, lk, killL, St.kill, wipeO, wipeS, AV.has, AV.hasL, AO.wipe, List.map_set, updSt, insL, dropS, ins, D.ints]); done) | trace_state)
    · rw [hbd hle] at hE
      simp (disch := first | omega | decide +kernel) only [D.ints, hei, go_sem, reduceEqDiff, reduceLT, reduceAdd, reduceMul, reduceSub, ↓reduceIte, reduceCtorEq, reduceLeDiff, reduceSubDiff, Nat.reduceBEq]
      (repeat' (first | (refine gsel_split (fun h => ?_) (fun h => ?_) <;> (have h' := h) <;> (try simp only [decide_eq_true_eq, decide_eq_false_iff_not, Bool.not_eq_true', Bool.not_eq_false', bne_iff_ne, ne_eq, beq_iff_eq, bne_eq_false_iff_eq, beq_eq_false_iff_ne, Int.ofNat_lt, Int.ofNat_le, Int.not_lt, Int.not_le, Decidable.not_not, Bool.and_eq_true, Bool.or_eq_true, Bool.or_eq_false_iff, gt_iff_lt, ge_iff_le] at h') <;> first | (exfalso; omega) | (simp (disch := first | omega | decide +kernel) only [h, D.ints, hei, go_sem, reduceEqDiff, reduceLT, reduceAdd, reduceMul, reduceSub, ↓reduceIte, reduceCtorEq, reduceLeDiff, reduceSubDiff, Nat.reduceBEq] <;> clear h)) | ((first | refine callX_new (c1) rfl (by decide) ?_ | refine callY_new (c1) rfl ?_ | refine hE _ _ ret_ne ?_ | refine hE _ _ exit_ne ?_) <;> try simp (disch := first | omega | decide +kernel) only [D.ints, hei, go_sem, reduceEqDiff, reduceLT, reduceAdd, reduceMul, reduceSub, ↓reduceIte, reduceCtorEq, reduceLeDiff, reduceSubDiff, Nat.reduceBEq]) | (refine hN _ ?_ ?_ Wk.kk) | (with_reducible refine And.intro ?_ ?_) | (with_reducible omega) | (exact ok_ints) | (exact cells_ints) | (exact no_mem) | (with_reducible exact plain_ints) | (refine le_maxLen ?_; omega) | (refine List.forall_mem_cons.2 ⟨?_, ?_⟩) | (simp only [go_sem, Nat.reduceAdd, Nat.reduceLT, List.mem_cons, List.not_mem_nil, forall_eq]; done)))
      all_goals (first | omega | trace_state)
  · obtain rfl : i = L.length := by omega
    rw [List.take_length] at hes hdg
    rw [← hes] at ht hbad
    clear hes hN
    simp (disch := first | omega | decide +kernel) only [D.ints, go_sem, reduceEqDiff, reduceLT, reduceAdd, reduceMul, reduceSub, ↓reduceIte, reduceCtorEq, reduceLeDiff, reduceSubDiff, Nat.reduceBEq]
    (repeat' (first | (refine gsel_split (fun h => ?_) (fun h => ?_) <;> (have h' := h) <;> (try simp only [decide_eq_true_eq, decide_eq_false_iff_not, Bool.not_eq_true', Bool.not_eq_false', bne_iff_ne, ne_eq, beq_iff_eq, bne_eq_false_iff_eq, beq_eq_false_iff_ne, Int.ofNat_lt, Int.ofNat_le, Int.not_lt, Int.not_le, Decidable.not_not, Bool.and_eq_true, Bool.or_eq_true, Bool.or_eq_false_iff, gt_iff_lt, ge_iff_le] at h') <;> first | (exfalso; omega) | (simp (disch := first | omega | decide +kernel) only [h, D.ints, go_sem, reduceEqDiff, reduceLT, reduceAdd, reduceMul, reduceSub, ↓reduceIte, reduceCtorEq, reduceLeDiff, reduceSubDiff, Nat.reduceBEq] <;> clear h)) | ((first | refine hE _ _ ret_ne ?_ | refine hE _ _ exit_ne ?_) <;> try simp (disch := first | omega | decide +kernel) only [D.ints, go_sem, reduceEqDiff, reduceLT, reduceAdd, reduceMul, reduceSub, ↓reduceIte, reduceCtorEq, reduceLeDiff, reduceSubDiff, Nat.reduceBEq]) | (refine hN _ ?_ ?_ Wk.kk) | (with_reducible refine And.intro ?_ ?_) | (with_reducible omega) | (exact ok_ints) | (exact cells_ints) | (exact no_mem) | (with_reducible exact plain_ints) | (refine le_maxLen ?_; omega) | (refine List.forall_mem_cons.2 ⟨?_, ?_⟩) | (simp only [go_sem, Nat.reduceAdd, Nat.reduceLT, List.mem_cons, List.not_mem_nil, forall_eq]; done)))
    all_goals (first | omega | skip)
    refine Ok.weak (Wk.frz (j := 900000001) rfl) ?_
    simp (disch := first | omega | decide +kernel) only [St.frz, frzS, frzO, AV.frz, AV.frzL, AO.frz, go_sem, reduceEqDiff, reduceLT, reduceAdd, reduceMul, reduceSub, ↓reduceIte, reduceCtorEq, reduceLeDiff, reduceSubDiff, Nat.reduceBEq]
    refine Ok.weak (Wk.data (j := 900000002) rfl rfl) ?_
    simp (disch := first | omega | decide +kernel) only [St.frz, frzS, frzO, AV.frz, AV.frzL, AO.frz, go_sem, reduceEqDiff, reduceLT, reduceAdd, reduceMul, reduceSub, ↓reduceIte, reduceCtorEq, reduceLeDiff, reduceSubDiff, Nat.reduceBEq]
    refine Ok.weak (Wk.bfz 18 (D.ech p u e.R e.M e.many) rfl rfl) ?_
    simp (disch := first | omega | decide +kernel) only [bfzS, bfzO, AV.bfz, AV.bfzL, AO.bfz, go_sem, reduceEqDiff, reduceLT, reduceAdd, reduceMul, reduceSub, ↓reduceIte, reduceCtorEq, reduceLeDiff, reduceSubDiff, Nat.reduceBEq]
    refine Ok.weak (Wk.bfz 7 (.ptr (D.ech p u e.R e.M e.many)) rfl rfl) ?_
    simp (disch := first | omega | decide +kernel) only [bfzS, bfzO, AV.bfz, AV.bfzL, AO.bfz, go_sem, reduceEqDiff, reduceLT, reduceAdd, reduceMul, reduceSub, ↓reduceIte, reduceCtorEq, reduceLeDiff, reduceSubDiff, Nat.reduceBEq]
    have hP := he.toP hu
    have hE2 := he.ech
    have hql : (cs.map (clauseD p u)).length = cs.length := by simp
    refine Ok.loopN [79, 78, 77, 76, 75, 74, 73, 72, 71, 70, 69, 68, 67, 66, 65, 64, 63, 62, 61, 60, 59, 58, 57, 56, 55, 54, 53, 52, 51, 50, 49, 48, 47, 46, 45, 44, 43, 42, 41, 40, 37, 36, 35, 34, 33, 32, 31, 30, 29, 28, 27, 26, 25, 24, 23, 22, 21, 20, 19, 18, 17, 16, 15, 14, 13, 12, 11, 9, 8, 5, 4, 3] (fun i (_ : Unit) => [(40, .d (.int .i64 (i : Nat)))]) (fun _ _ => []) cs.length
      (fun i _ => ∀ a ∈ clausesD p u d (cs.take i), Sp p (2 ^ u) e.R a) () (by simp [clausesD]) (by refine Wk.auto ?_ ?_ <;> simp [extraK, lk, killL, St.kill, wipeO, wipeS, AV.has, AV.hasL, AO.wipe, List.map_set, updSt, insL, dropS, ins, D.ints]) ?_
    rintro R1 i ⟨⟩ hN hE hi hI
    by_cases hlt1 : i < cs.length
    · have hsu := clausesD_succ p u d cs hlt1
      have hci : cs.getD i [] ∈ cs := getD_mem (z := ([] : List Int)) hlt1
      have hcx := hc i
      have hCv := Vec.clause hp1.1 u (cs.getD i [])
      have hei := el_intss (xs := cs) hlt1
      have hei2 : el ((cs.map (clauseD p u)).map D.ints) i = .slice ((clauseD p u (cs.getD i [])).map (.int .i64)) := by
        rw [el_intss (by omega), getD_mapz (clauseD p u) [] [] cs hlt1]
      obtain ⟨b, hb⟩ : ∃ b : Bool, b = true ↔ Sp p (2 ^ u) e.R (clauseD p u (cs.getD i [])) := bool_ex _
      have c2 := has_ok hp1 hu hP hE2 hCv hb
      by_cases hle : ((cs.getD i []).length : Int) ≤ d
      · rw [if_pos hle] at hsu
        have hmem : clauseD p u (cs.getD i []) ∈ clausesD p u d cs := List.mem_map_of_mem (List.mem_filter.2 ⟨hci, by simpa using hle⟩)
        generalize clauseD p u (cs.getD i []) = C at *
        cases b with
        | true =>
          have hI2 : ∀ a ∈ clausesD p u d (cs.take (i + 1)), Sp p (2 ^ u) e.R a := fun a ha => by
            rw [hsu] at ha
            rcases List.mem_append.1 ha with h1 | h1
            · exact hI a h1
            · rw [List.mem_singleton.1 h1]; exact hb.1 rfl
          clear hI ht hbad hsu hb
          simp (disch := first | omega | decide +kernel) only [D.ints, hei, hei2, go_sem, reduceEqDiff, reduceLT, reduceAdd, reduceMul, reduceSub, ↓reduceIte, reduceCtorEq, reduceLeDiff, reduceSubDiff, Nat.reduceBEq]
          (repeat' (first | (refine gsel_split (fun h => ?_) (fun h => ?_) <;> (have h' := h) <;> (try simp only [decide_eq_true_eq, decide_eq_false_iff_not, Bool.not_eq_true', Bool.not_eq_false', bne_iff_ne, ne_eq, beq_iff_eq, bne_eq_false_iff_eq, beq_eq_false_iff_ne, Int.ofNat_lt, Int.ofNat_le, Int.not_lt, Int.not_le, Decidable.not_not, Bool.and_eq_true, Bool.or_eq_true, Bool.or_eq_false_iff, gt_iff_lt, ge_iff_le] at h') <;> first | (exfalso; omega) | (simp (disch := first | omega | decide +kernel) only [h, D.ints, hei, hei2, go_sem, reduceEqDiff, reduceLT, reduceAdd, reduceMul, reduceSub, ↓reduceIte, reduceCtorEq, reduceLeDiff, reduceSubDiff, Nat.reduceBEq] <;> clear h)) | ((first | refine callX_new (c2) rfl (by decide) ?_ | refine callY_new (c2) rfl ?_ | refine hE _ _ ret_ne ?_ | refine hE _ _ exit_ne ?_) <;> try simp (disch := first | omega | decide +kernel) only [D.ints, hei, hei2, go_sem, reduceEqDiff, reduceLT, reduceAdd, reduceMul, reduceSub, ↓reduceIte, reduceCtorEq, reduceLeDiff, reduceSubDiff, Nat.reduceBEq]) | (refine hN _ ?_ ?_ Wk.kk) | (with_reducible refine And.intro ?_ ?_) | (with_reducible omega) | (exact ok_ints) | (exact cells_ints) | (exact no_mem) | (with_reducible exact plain_ints) | (refine le_maxLen ?_; omega) | (refine List.forall_mem_cons.2 ⟨?_, ?_⟩) | (simp only [go_sem, Nat.reduceAdd, Nat.reduceLT, List.mem_cons, List.not_mem_nil, forall_eq]; done)))
          all_goals (first | omega | (refine hN () _ hlt1 hI2 (by refine Wk.auto ?_ ?_ <;> simp [extraK, lk, killL, St.kill, wipeO, wipeS, AV.has, AV.hasL, AO.wipe, List.map_set, updSt, insL, dropS, ins, D.ints]); done) | trace_state)
        | false =>
          have hb2 : t = false := hbad fun hh => by cases hb.2 (hh.2.1 _ hmem)
          rw [hb2] at hE
          clear hI ht hbad hsu hb
          simp (disch := first | omega | decide +kernel) only [D.ints, hei, hei2, go_sem, reduceEqDiff, reduceLT, reduceAdd, reduceMul, reduceSub, ↓reduceIte, reduceCtorEq, reduceLeDiff, reduceSubDiff, Nat.reduceBEq]
          (repeat' (first | (refine gsel_split (fun h => ?_) (fun h => ?_) <;> (have h' := h) <;> (try simp only [decide_eq_true_eq, decide_eq_false_iff_not, Bool.not_eq_true', Bool.not_eq_false', bne_iff_ne, ne_eq, beq_iff_eq, bne_eq_false_iff_eq, beq_eq_false_iff_ne, Int.ofNat_lt, Int.ofNat_le, Int.not_lt, Int.not_le, Decidable.not_not, Bool.and_eq_true, Bool.or_eq_true, Bool.or_eq_false_iff, gt_iff_lt, ge_iff_le] at h') <;> first | (exfalso; omega) | (simp (disch := first | omega | decide +kernel) only [h, D.ints, hei, hei2, go_sem, reduceEqDiff, reduceLT, reduceAdd, reduceMul, reduceSub, ↓reduceIte, reduceCtorEq, reduceLeDiff, reduceSubDiff, Nat.reduceBEq] <;> clear h)) | ((first | refine callX_new (c2) rfl (by decide) ?_ | refine callY_new (c2) rfl ?_ | refine hE _ _ ret_ne ?_ | refine hE _ _ exit_ne ?_) <;> try simp (disch := first | omega | decide +kernel) only [D.ints, hei, hei2, go_sem, reduceEqDiff, reduceLT, reduceAdd, reduceMul, reduceSub, ↓reduceIte, reduceCtorEq, reduceLeDiff, reduceSubDiff, Nat.reduceBEq]) | (refine hN _ ?_ ?_ Wk.kk) | (with_reducible refine And.intro ?_ ?_) | (with_reducible omega) | (exact ok_ints) | (exact cells_ints) | (exact no_mem) | (with_reducible exact plain_ints) | (refine le_maxLen ?_; omega) | (refine List.forall_mem_cons.2 ⟨?_, ?_⟩) | (simp only [go_sem, Nat.reduceAdd, Nat.reduceLT, List.mem_cons, List.not_mem_nil, forall_eq]; done)))
          all_goals (first | omega | trace_state)
      · rw [if_neg hle, List.append_nil] at hsu
        rw [← hsu] at hI
        clear hb
        generalize clauseD p u (cs.getD i []) = C at *
        simp (disch := first | omega | decide +kernel) only [D.ints, hei, hei2, go_sem, reduceEqDiff, reduceLT, reduceAdd, reduceMul, reduceSub, ↓reduceIte, reduceCtorEq, reduceLeDiff, reduceSubDiff, Nat.reduceBEq]
        (repeat' (first | (refine gsel_split (fun h => ?_) (fun h => ?_) <;> (have h' := h) <;> (try simp only [decide_eq_true_eq, decide_eq_false_iff_not, Bool.not_eq_true', Bool.not_eq_false', bne_iff_ne, ne_eq, beq_iff_eq, bne_eq_false_iff_eq, beq_eq_false_iff_ne, Int.ofNat_lt, Int.ofNat_le, Int.not_lt, Int.not_le, Decidable.not_not, Bool.and_eq_true, Bool.or_eq_true, Bool.or_eq_false_iff, gt_iff_lt, ge_iff_le] at h') <;> first | (exfalso; omega) | (simp (disch := first | omega | decide +kernel) only [h, D.ints, hei, hei2, go_sem, reduceEqDiff, reduceLT, reduceAdd, reduceMul, reduceSub, ↓reduceIte, reduceCtorEq, reduceLeDiff, reduceSubDiff, Nat.reduceBEq] <;> clear h)) | ((first | refine callX_new (c2) rfl (by decide) ?_ | refine callY_new (c2) rfl ?_ | refine hE _ _ ret_ne ?_ | refine hE _ _ exit_ne ?_) <;> try simp (disch := first | omega | decide +kernel) only [D.ints, hei, hei2, go_sem, reduceEqDiff, reduceLT, reduceAdd, reduceMul, reduceSub, ↓reduceIte, reduceCtorEq, reduceLeDiff, reduceSubDiff, Nat.reduceBEq]) | (refine hN _ ?_ ?_ Wk.kk) | (with_reducible refine And.intro ?_ ?_) | (with_reducible omega) | (exact ok_ints) | (exact cells_ints) | (exact no_mem) | (with_reducible exact plain_ints) | (refine le_maxLen ?_; omega) | (refine List.forall_mem_cons.2 ⟨?_, ?_⟩) | (simp only [go_sem, Nat.reduceAdd, Nat.reduceLT, List.mem_cons, List.not_mem_nil, forall_eq]; done)))
        all_goals (first | omega | (refine hN () _ hlt1 hI (by refine Wk.auto ?_ ?_ <;> simp [extraK, lk, killL, St.kill, wipeO, wipeS, AV.has, AV.hasL, AO.wipe, List.map_set, updSt, insL, dropS, ins, D.ints]); done) | trace_state)
    · obtain rfl : i = cs.length := by omega
      rw [List.take_length] at hI
      clear hN
      obtain ⟨b1, hb1⟩ : ∃ b : Bool, b = true ↔ Closed p u d e.R := bool_ex _
      obtain ⟨b2, hb2⟩ : ∃ b : Bool, b = true ↔ Sp p (2 ^ u) e.R (monoD u 0) := bool_ex _
      have htt : t = (b1 && !b2) := by
        have : t = true ↔ (b1 && !b2) = true := by
          rw [ht, Bool.and_eq_true, hb1, Bool.not_eq_true', ← Bool.not_eq_true, hb2]
          exact ⟨fun h => ⟨h.2.2.1, h.2.2.2⟩, fun h => ⟨hdg, hI, h.1, h.2⟩⟩
        cases t with
        | true => exact (this.1 rfl).symm
        | false =>
          cases hbb : (b1 && !b2) with
          | true => exact this.2 hbb
          | false => rfl
      rw [htt] at hE
      have c1 := liftedHas_ok (cs := cs) (q := cs.map (clauseD p u)) hp1 hu hP hE2 d hb1
      have c2 := Ctr.data1 (mono_ok hp1 hu (m := 0) (Nat.pow_pos (by decide)))
      have c3 := has_ok hp1 hu hP hE2 (Vec.mono hp1.1 u 0) hb2
      generalize monoD u 0 = O at *
      clear hb1 hb2 ht hbad htt hI
      cases b1 <;> cases b2
      all_goals (
        simp (disch := first | omega | decide +kernel) only [D.ints, go_sem, reduceEqDiff, reduceLT, reduceAdd, reduceMul, reduceSub, ↓reduceIte, reduceCtorEq, reduceLeDiff, reduceSubDiff, Nat.reduceBEq]
        (repeat' (first | (refine gsel_split (fun h => ?_) (fun h => ?_) <;> (have h' := h) <;> (try simp only [decide_eq_true_eq, decide_eq_false_iff_not, Bool.not_eq_true', Bool.not_eq_false', bne_iff_ne, ne_eq, beq_iff_eq, bne_eq_false_iff_eq, beq_eq_false_iff_ne, Int.ofNat_lt, Int.ofNat_le, Int.not_lt, Int.not_le, Decidable.not_not, Bool.and_eq_true, Bool.or_eq_true, Bool.or_eq_false_iff, gt_iff_lt, ge_iff_le] at h') <;> first | (exfalso; omega) | (simp (disch := first | omega | decide +kernel) only [h, D.ints, go_sem, reduceEqDiff, reduceLT, reduceAdd, reduceMul, reduceSub, ↓reduceIte, reduceCtorEq, reduceLeDiff, reduceSubDiff, Nat.reduceBEq] <;> clear h)) | ((first | refine callX_new (c1) rfl (by decide) ?_ | refine callY_new (c1) rfl ?_ | refine callX_shared (c2) rfl (by decide) ?_ | refine callY_shared (c2) rfl ?_ | refine callX_new (c3) rfl (by decide) ?_ | refine callY_new (c3) rfl ?_ | refine hE _ _ ret_ne ?_ | refine hE _ _ exit_ne ?_) <;> try simp (disch := first | omega | decide +kernel) only [D.ints, go_sem, reduceEqDiff, reduceLT, reduceAdd, reduceMul, reduceSub, ↓reduceIte, reduceCtorEq, reduceLeDiff, reduceSubDiff, Nat.reduceBEq]) | (refine hN _ ?_ ?_ Wk.kk) | (with_reducible refine And.intro ?_ ?_) | (with_reducible omega) | (exact ok_ints) | (exact cells_ints) | (exact no_mem) | (with_reducible exact plain_ints) | (refine le_maxLen ?_; omega) | (refine List.forall_mem_cons.2 ⟨?_, ?_⟩) | (simp only [go_sem, Nat.reduceAdd, Nat.reduceLT, List.mem_cons, List.not_mem_nil, forall_eq]; done)))
        all_goals (first | omega | trace_state))
end
def okBar (p v : Int) (cs : List (List Int)) (d : Int) (list : List (List (Int × Int))) : Bool :=
  (((primeB p v && okCnf v cs) && degB d) && decide (list.length ≤ 64)) && list.all (isT p (2 ^ v.toNat))
def BarP (p v : Int) (cs : List (List Int)) (d : Int) (list : List (List (Int × Int))) : Prop :=
  okBar p v cs d list = true ∧ ∃ R, Ech p (2 ^ v.toNat) ldG R ∧ SpEq p (2 ^ v.toNat) R (list.map (dnT (2 ^ v.toNat))) ∧ Barr p v.toNat d cs (list.map (dnT (2 ^ v.toNat))) R
end Abs.Y
