/- What functions of this program compute, as contracts over plain data, with what the proofs need of them. No condition. -/
import Derived.Test.YtoppjihdipidiaaM9a
import Derived.Test.YtoppjihdipidiaaV2
import Derived.Test.YtoppjihdipidiaaL2
set_option linter.all false
namespace Abs.Y
open Go Go.Proofs Abs
open Nat (reduceEqDiff reduceLT reduceAdd reduceMul reduceSub reduceLeDiff reduceSubDiff)
set_option maxRecDepth 100000

theorem toIntSd_ok (a : List Int) (hl : a.length ≤ 4294967296) : Ctr Try.prog 37 [.ints a] false (.sl 0) [(0, .dp (some (3, 1)) (a.map (.int .i64)) none)] :=
  (toIntS_ok a hl).deep (by simp only [bare_ints])
theorem markIntS_ok (τ : Option (TypeId × Nat)) (a : List Int) (k : Int) (h0 : 0 ≤ k) (h1 : k + a.length ≤ 9000000000000000000) :
    CtrM Try.prog 43 [.sl 0, .d (.int .i64 k)] [(0, .dp τ (a.map (.int .i64)) none)] [0] false (.d (.int .i64 (k + a.length))) [(0, .dp τ ((cntI k a.length).map (.int .i64)) none)] := by
  refine CtrM.of (n := 19) (rs := [.tmp 4]) Try.func43 rfl rfl Try.ntmps43 rfl rfl (by kernel_rfl) Try.checked.mixed ?_; intro u
  simp (disch := first | omega | decide +kernel) only [go_sem, reduceEqDiff, reduceLT, reduceAdd, reduceMul, reduceSub, ↓reduceIte, reduceCtorEq, reduceLeDiff, reduceSubDiff, Nat.reduceBEq]
  refine Ok.loopN [17, 16, 15, 14, 13, 12, 11, 10, 9, 8, 7, 6, 5, 3, 2, 1] (fun i _ => [(5, .d (.int .i64 (i : Nat))), (1, .d (.int .i64 (k + (i : Nat))))]) (fun _ (cur : List Int) => [(0, .dp τ (List.map (D.int .i64) cur) none)]) a.length
    (fun i cur => cur.length = a.length ∧ ∀ j, j < i → cur.getD j 0 = k + j) a ⟨rfl, by simp⟩ (Wk.kk) ?_
  rintro R i cur hN hE hi ⟨hcl, hcur⟩
  simp (disch := first | omega | decide +kernel) only [go_sem, reduceEqDiff, reduceLT, reduceAdd, reduceMul, reduceSub, ↓reduceIte, reduceCtorEq, reduceLeDiff, reduceSubDiff, Nat.reduceBEq]
  by_cases hlt : i < a.length
  · have hlc : i < cur.length := by omega
    (repeat' (first | (refine gsel_split (fun h => ?_) (fun h => ?_) <;> (have h' := h) <;> (try simp only [decide_eq_true_eq, decide_eq_false_iff_not, Bool.not_eq_true', Bool.not_eq_false', bne_iff_ne, ne_eq, beq_iff_eq, bne_eq_false_iff_eq, beq_eq_false_iff_ne, Int.ofNat_lt, Int.ofNat_le, Int.not_lt, Int.not_le, Decidable.not_not, Bool.and_eq_true, Bool.or_eq_true, Bool.or_eq_false_iff, gt_iff_lt, ge_iff_le] at h') <;> simp (disch := first | omega | decide +kernel) only [h, go_sem, reduceEqDiff, reduceLT, reduceAdd, reduceMul, reduceSub, ↓reduceIte, reduceCtorEq, reduceLeDiff, reduceSubDiff, Nat.reduceBEq] <;> clear h) | ((first | refine hE _ _ ret_ne ?_ | refine hE _ _ exit_ne ?_) <;> try simp (disch := first | omega | decide +kernel) only [go_sem, reduceEqDiff, reduceLT, reduceAdd, reduceMul, reduceSub, ↓reduceIte, reduceCtorEq, reduceLeDiff, reduceSubDiff, Nat.reduceBEq]) | (refine hN _ ?_ ?_ Wk.kk) | (with_reducible refine And.intro ?_ ?_) | (with_reducible omega) | (exact ok_ints) | (exact cells_ints) | (exact no_mem) | (with_reducible exact plain_ints) | (refine le_maxLen ?_; omega) | (refine List.forall_mem_cons.2 ⟨?_, ?_⟩) | (simp only [go_sem, Nat.reduceAdd, Nat.reduceLT, List.mem_cons, List.not_mem_nil, forall_eq]; done)))

    · refine hN (cur.set i (k + i)) _ hlt ⟨by simp [hcl], fun j hj => ?_⟩ (by refine Wk.auto ?_ ?_ <;> simp [extraK, lk, killL, St.kill, wipeO, wipeS, AV.has, AV.hasL, AO.wipe, List.map_set, updSt, insL, dropS, ins, Int.add_assoc])
      rw [set_getDz 0 _ _ _ _ hlc]
      by_cases e : j = i
      · subst e; simp
      · rw [if_neg e]; exact hcur j (by omega)
  · (repeat' (first | (refine gsel_split (fun h => ?_) (fun h => ?_) <;> (have h' := h) <;> (try simp only [decide_eq_true_eq, decide_eq_false_iff_not, Bool.not_eq_true', Bool.not_eq_false', bne_iff_ne, ne_eq, beq_iff_eq, bne_eq_false_iff_eq, beq_eq_false_iff_ne, Int.ofNat_lt, Int.ofNat_le, Int.not_lt, Int.not_le, Decidable.not_not, Bool.and_eq_true, Bool.or_eq_true, Bool.or_eq_false_iff, gt_iff_lt, ge_iff_le] at h') <;> simp (disch := first | omega | decide +kernel) only [h, go_sem, reduceEqDiff, reduceLT, reduceAdd, reduceMul, reduceSub, ↓reduceIte, reduceCtorEq, reduceLeDiff, reduceSubDiff, Nat.reduceBEq] <;> clear h) | ((first | refine hE _ _ ret_ne ?_ | refine hE _ _ exit_ne ?_) <;> try simp (disch := first | omega | decide +kernel) only [go_sem, reduceEqDiff, reduceLT, reduceAdd, reduceMul, reduceSub, ↓reduceIte, reduceCtorEq, reduceLeDiff, reduceSubDiff, Nat.reduceBEq]) | (refine hN _ ?_ ?_ Wk.kk) | (with_reducible refine And.intro ?_ ?_) | (with_reducible omega) | (exact ok_ints) | (exact cells_ints) | (exact no_mem) | (with_reducible exact plain_ints) | (refine le_maxLen ?_; omega) | (refine List.forall_mem_cons.2 ⟨?_, ?_⟩) | (simp only [go_sem, Nat.reduceAdd, Nat.reduceLT, List.mem_cons, List.not_mem_nil, forall_eq]; done)))
    · obtain rfl : cur = cntI k a.length := ext_getDz 0 (by rw [cntI_len]; exact hcl) fun j hj => by rw [hcur j (by omega), cntI_getD _ _ _ (by omega)]
      obtain rfl : i = a.length := by omega
      exact retM_d rfl rfl rfl rfl trivial rfl
theorem heldIntS_ok (n : Nat) (k : Int) (h0 : 0 ≤ k) (h1 : k + n ≤ 9000000000000000000) :
    Ctr Try.prog 44 [.slice ((cntI k n).map (.int .i64)), .int .i64 k] false (.d (.int .i64 (k + n))) [] := by
  have hlen := cntI_len n k
  refine Ctr.of (n := 21) (rs := [.tmp 4]) Try.func44 rfl rfl Try.ntmps44 rfl rfl (by kernel_rfl) Try.checked.mixed ?_
  simp (disch := first | omega | decide +kernel) only [cntI_len, go_sem, reduceEqDiff, reduceLT, reduceAdd, reduceMul, reduceSub, ↓reduceIte, reduceCtorEq, reduceLeDiff, reduceSubDiff, Nat.reduceBEq]
  refine Ok.loopN [19, 18, 17, 16, 15, 14, 13, 12, 11, 10, 9, 8, 7, 6, 5, 4, 3, 2, 1] (fun i _ => [(5, .d (.int .i64 (i : Nat))), (1, .d (.int .i64 (k + (i : Nat))))]) (fun _ (_ : Unit) => []) n (fun i _ => True) () trivial (Wk.kk) ?_
  rintro R i _ hN hE hi _
  simp (disch := first | omega | decide +kernel) only [cntI_len, go_sem, reduceEqDiff, reduceLT, reduceAdd, reduceMul, reduceSub, ↓reduceIte, reduceCtorEq, reduceLeDiff, reduceSubDiff, Nat.reduceBEq]
  by_cases hlt : i < n
  · have hg := cntI_getD n k i hlt
    (repeat' (first | (refine gsel_split (fun h => ?_) (fun h => ?_) <;> (have h' := h) <;> (try simp only [decide_eq_true_eq, decide_eq_false_iff_not, Bool.not_eq_true', Bool.not_eq_false', bne_iff_ne, ne_eq, beq_iff_eq, bne_eq_false_iff_eq, beq_eq_false_iff_ne, Int.ofNat_lt, Int.ofNat_le, Int.not_lt, Int.not_le, Decidable.not_not, Bool.and_eq_true, Bool.or_eq_true, Bool.or_eq_false_iff, gt_iff_lt, ge_iff_le] at h') <;> simp (disch := first | omega | decide +kernel) only [h, cntI_len, hg, go_sem, reduceEqDiff, reduceLT, reduceAdd, reduceMul, reduceSub, ↓reduceIte, reduceCtorEq, reduceLeDiff, reduceSubDiff, Nat.reduceBEq] <;> clear h) | ((first | refine hE _ _ ret_ne ?_ | refine hE _ _ exit_ne ?_) <;> try simp (disch := first | omega | decide +kernel) only [cntI_len, hg, go_sem, reduceEqDiff, reduceLT, reduceAdd, reduceMul, reduceSub, ↓reduceIte, reduceCtorEq, reduceLeDiff, reduceSubDiff, Nat.reduceBEq]) | (refine hN _ ?_ ?_ Wk.kk) | (with_reducible refine And.intro ?_ ?_) | (with_reducible omega) | (exact ok_ints) | (exact cells_ints) | (exact no_mem) | (with_reducible exact plain_ints) | (refine le_maxLen ?_; omega) | (refine List.forall_mem_cons.2 ⟨?_, ?_⟩) | (simp only [go_sem, Nat.reduceAdd, Nat.reduceLT, List.mem_cons, List.not_mem_nil, forall_eq]; done)))
    all_goals (first | omega | skip)
    all_goals (first | exact absurd trivial h' | (refine hN () _ hlt trivial (by refine Wk.auto ?_ ?_ <;> simp [extraK, lk, killL, St.kill, wipeO, wipeS, AV.has, AV.hasL, AO.wipe, List.map_set, updSt, insL, dropS, ins, Int.add_assoc]); done))
  · obtain rfl : i = n := by omega
    (repeat' (first | (refine gsel_split (fun h => ?_) (fun h => ?_) <;> (have h' := h) <;> (try simp only [decide_eq_true_eq, decide_eq_false_iff_not, Bool.not_eq_true', Bool.not_eq_false', bne_iff_ne, ne_eq, beq_iff_eq, bne_eq_false_iff_eq, beq_eq_false_iff_ne, Int.ofNat_lt, Int.ofNat_le, Int.not_lt, Int.not_le, Decidable.not_not, Bool.and_eq_true, Bool.or_eq_true, Bool.or_eq_false_iff, gt_iff_lt, ge_iff_le] at h') <;> simp (disch := first | omega | decide +kernel) only [h, cntI_len, go_sem, reduceEqDiff, reduceLT, reduceAdd, reduceMul, reduceSub, ↓reduceIte, reduceCtorEq, reduceLeDiff, reduceSubDiff, Nat.reduceBEq] <;> clear h) | ((first | refine hE _ _ ret_ne ?_ | refine hE _ _ exit_ne ?_) <;> try simp (disch := first | omega | decide +kernel) only [cntI_len, go_sem, reduceEqDiff, reduceLT, reduceAdd, reduceMul, reduceSub, ↓reduceIte, reduceCtorEq, reduceLeDiff, reduceSubDiff, Nat.reduceBEq]) | (refine hN _ ?_ ?_ Wk.kk) | (with_reducible refine And.intro ?_ ?_) | (with_reducible omega) | (exact ok_ints) | (exact cells_ints) | (exact no_mem) | (with_reducible exact plain_ints) | (refine le_maxLen ?_; omega) | (refine List.forall_mem_cons.2 ⟨?_, ?_⟩) | (simp only [go_sem, Nat.reduceAdd, Nat.reduceLT, List.mem_cons, List.not_mem_nil, forall_eq]; done)))
    all_goals (first | omega)
theorem markIntSS_ok (τ : Option (TypeId × Nat)) (a : List (List Int)) (k : Int) (h0 : 0 ≤ k) (h1 : k + lenSS a ≤ 9000000000000000000) (hl : a.length ≤ 4294967296) :
    CtrM Try.prog 107 [.sl 0, .d (.int .i64 k)] [(0, .dp τ (a.map D.ints) none)] [0] false (.d (.int .i64 (k + lenSS a))) [(0, .dp τ ((cntSS a k).map D.ints) none)] := by
  refine CtrM.of (n := 19) (rs := [.tmp 4]) Try.func107 rfl rfl Try.ntmps107 rfl rfl (by kernel_rfl) Try.checked.mixed ?_; intro u
  simp (disch := first | omega | decide +kernel) only [go_sem, reduceEqDiff, reduceLT, reduceAdd, reduceMul, reduceSub, ↓reduceIte, reduceCtorEq, reduceLeDiff, reduceSubDiff, Nat.reduceBEq]
  refine Ok.loopN [17, 16, 15, 14, 13, 12, 11, 10, 9, 8, 7, 6, 5, 3, 2, 1] (fun i _ => [(5, .d (.int .i64 (i : Nat))), (1, .d (.int .i64 (offSS a k i)))]) (fun _ (cur : List (List Int)) => [(0, .dp τ (List.map D.ints cur) none)]) a.length
    (fun i cur => cur.length = a.length ∧ (∀ j, j < i → cur.getD j ([] : List Int) = (cntSS a k).getD j ([] : List Int)) ∧ ∀ j, i ≤ j → cur.getD j ([] : List Int) = a.getD j ([] : List Int)) a ⟨rfl, by simp, by simp⟩ (by rw [offSS_zero]; exact (Wk.kk)) ?_
  rintro R i cur hN hE hi ⟨hcl, hcur, hcur2⟩
  simp (disch := first | omega | decide +kernel) only [go_sem, reduceEqDiff, reduceLT, reduceAdd, reduceMul, reduceSub, ↓reduceIte, reduceCtorEq, reduceLeDiff, reduceSubDiff, Nat.reduceBEq]
  by_cases hlt : i < a.length
  · have hlc : i < cur.length := by omega
    have hg := hcur2 i (Nat.le_refl _)
    have hs := offSS_succ a k i hlt
    have hle := offSS_le a k (i + 1)
    have hnn := offSS_nonneg a i h0
    have hc := markIntS_ok none (a.getD i ([] : List Int)) (offSS a k i) hnn (by omega)
    (repeat' (first | (refine gsel_split (fun h => ?_) (fun h => ?_) <;> (have h' := h) <;> (try simp only [decide_eq_true_eq, decide_eq_false_iff_not, Bool.not_eq_true', Bool.not_eq_false', bne_iff_ne, ne_eq, beq_iff_eq, bne_eq_false_iff_eq, beq_eq_false_iff_ne, Int.ofNat_lt, Int.ofNat_le, Int.not_lt, Int.not_le, Decidable.not_not, Bool.and_eq_true, Bool.or_eq_true, Bool.or_eq_false_iff, gt_iff_lt, ge_iff_le] at h') <;> simp (disch := first | omega | decide +kernel) only [h, hg, go_sem, reduceEqDiff, reduceLT, reduceAdd, reduceMul, reduceSub, ↓reduceIte, reduceCtorEq, reduceLeDiff, reduceSubDiff, Nat.reduceBEq] <;> clear h) | ((first | refine hE _ _ ret_ne ?_ | refine hE _ _ exit_ne ?_) <;> try simp (disch := first | omega | decide +kernel) only [hg, go_sem, reduceEqDiff, reduceLT, reduceAdd, reduceMul, reduceSub, ↓reduceIte, reduceCtorEq, reduceLeDiff, reduceSubDiff, Nat.reduceBEq]) | (refine hN _ ?_ ?_ Wk.kk) | (with_reducible refine And.intro ?_ ?_) | (with_reducible omega) | (exact ok_ints) | (exact cells_ints) | (exact no_mem) | (with_reducible exact plain_ints) | (refine le_maxLen ?_; omega) | (refine List.forall_mem_cons.2 ⟨?_, ?_⟩) | (simp only [go_sem, Nat.reduceAdd, Nat.reduceLT, List.mem_cons, List.not_mem_nil, forall_eq]; done)))
    refine callX_keep _ hc ⟨.inl rfl, .inl rfl, trivial⟩ rfl (by simp [dstB]) ?_
    simp (disch := first | omega | decide +kernel) only [go_sem, reduceEqDiff, reduceLT, reduceAdd, reduceMul, reduceSub, ↓reduceIte, reduceCtorEq, reduceLeDiff, reduceSubDiff, Nat.reduceBEq]
    (repeat' (first | (refine gsel_split (fun h => ?_) (fun h => ?_) <;> (have h' := h) <;> (try simp only [decide_eq_true_eq, decide_eq_false_iff_not, Bool.not_eq_true', Bool.not_eq_false', bne_iff_ne, ne_eq, beq_iff_eq, bne_eq_false_iff_eq, beq_eq_false_iff_ne, Int.ofNat_lt, Int.ofNat_le, Int.not_lt, Int.not_le, Decidable.not_not, Bool.and_eq_true, Bool.or_eq_true, Bool.or_eq_false_iff, gt_iff_lt, ge_iff_le] at h') <;> simp (disch := first | omega | decide +kernel) only [h, go_sem, reduceEqDiff, reduceLT, reduceAdd, reduceMul, reduceSub, ↓reduceIte, reduceCtorEq, reduceLeDiff, reduceSubDiff, Nat.reduceBEq] <;> clear h) | ((first | refine hE _ _ ret_ne ?_ | refine hE _ _ exit_ne ?_) <;> try simp (disch := first | omega | decide +kernel) only [go_sem, reduceEqDiff, reduceLT, reduceAdd, reduceMul, reduceSub, ↓reduceIte, reduceCtorEq, reduceLeDiff, reduceSubDiff, Nat.reduceBEq]) | (refine hN _ ?_ ?_ Wk.kk) | (with_reducible refine And.intro ?_ ?_) | (with_reducible omega) | (exact ok_ints) | (exact cells_ints) | (exact no_mem) | (with_reducible exact plain_ints) | (refine le_maxLen ?_; omega) | (refine List.forall_mem_cons.2 ⟨?_, ?_⟩) | (simp only [go_sem, Nat.reduceAdd, Nat.reduceLT, List.mem_cons, List.not_mem_nil, forall_eq]; done)))
    refine hN (cur.set i (cntI (offSS a k i) (a.getD i []).length)) _ hlt ⟨by simp [hcl], fun j hj => ?_, fun j hj => ?_⟩ ((Wk.fold 0 (by simp (disch := first | omega | decide +kernel) only [go_sem, reduceEqDiff, reduceLT, reduceAdd, reduceMul, reduceSub, ↓reduceIte, reduceCtorEq, reduceLeDiff, reduceSubDiff, Nat.reduceBEq]; rfl)).trans (by refine Wk.auto ?_ ?_ <;> simp [extraK, lk, killL, St.kill, wipeO, wipeS, AV.has, AV.hasL, AO.wipe, List.map_set, updSt, insL, dropS, ins, D.ints, hs]))
    · rw [set_getDz ([] : List Int) _ _ _ _ hlc]
      by_cases e : j = i
      · subst e; rw [if_pos rfl, cntSS_getD _ _ _ hlt]
      · rw [if_neg e]; exact hcur j (by omega)
    · rw [set_getDz ([] : List Int) _ _ _ _ hlc, if_neg (by omega)]; exact hcur2 j (by omega)
  · (repeat' (first | (refine gsel_split (fun h => ?_) (fun h => ?_) <;> (have h' := h) <;> (try simp only [decide_eq_true_eq, decide_eq_false_iff_not, Bool.not_eq_true', Bool.not_eq_false', bne_iff_ne, ne_eq, beq_iff_eq, bne_eq_false_iff_eq, beq_eq_false_iff_ne, Int.ofNat_lt, Int.ofNat_le, Int.not_lt, Int.not_le, Decidable.not_not, Bool.and_eq_true, Bool.or_eq_true, Bool.or_eq_false_iff, gt_iff_lt, ge_iff_le] at h') <;> simp (disch := first | omega | decide +kernel) only [h, go_sem, reduceEqDiff, reduceLT, reduceAdd, reduceMul, reduceSub, ↓reduceIte, reduceCtorEq, reduceLeDiff, reduceSubDiff, Nat.reduceBEq] <;> clear h) | ((first | refine hE _ _ ret_ne ?_ | refine hE _ _ exit_ne ?_) <;> try simp (disch := first | omega | decide +kernel) only [go_sem, reduceEqDiff, reduceLT, reduceAdd, reduceMul, reduceSub, ↓reduceIte, reduceCtorEq, reduceLeDiff, reduceSubDiff, Nat.reduceBEq]) | (refine hN _ ?_ ?_ Wk.kk) | (with_reducible refine And.intro ?_ ?_) | (with_reducible omega) | (exact ok_ints) | (exact cells_ints) | (exact no_mem) | (with_reducible exact plain_ints) | (refine le_maxLen ?_; omega) | (refine List.forall_mem_cons.2 ⟨?_, ?_⟩) | (simp only [go_sem, Nat.reduceAdd, Nat.reduceLT, List.mem_cons, List.not_mem_nil, forall_eq]; done)))
    · obtain rfl : cur = cntSS a k := ext_getDz ([] : List Int) (by rw [cntSS_len]; exact hcl) fun j hj => hcur j (by omega)
      obtain rfl : i = a.length := by omega
      rw [offSS_len]
      exact retM_d rfl rfl rfl rfl trivial rfl
end Abs.Y

namespace Abs.Y
open Go Go.Proofs Abs
open Nat (reduceEqDiff reduceLT reduceAdd reduceMul reduceSub reduceLeDiff reduceSubDiff)
set_option maxRecDepth 100000

theorem r_cnf {x : D} (h : isSt [isI64, isSl (isSl isI64)] x) : ∃ (v : Int) (a : List (List Int)), x = .agg [.int .i64 v, .slice (a.map D.ints)] ∧ a.length ≤ 9223372036854775807 ∧ ∀ y ∈ a, y.length ≤ 9223372036854775807 := by
  obtain ⟨es, rfl, hl, he⟩ := h
  match es, hl with
  | [e0, e1], _ =>
    obtain ⟨v, hv, _⟩ := he 0 (by simp)
    obtain ⟨a, ha, h1, h2⟩ := r_intss (he 1 (by simp))
    simp only [List.getD_cons_zero, List.getD_cons_succ] at hv ha
    subst hv; subst ha
    exact ⟨v, a, rfl, h1, h2⟩
theorem toIntSSd_ok (a : List (List Int)) (hl : a.length ≤ 4294967296) (hx : ∀ x ∈ a, x.length ≤ 4294967296) : Ctr Try.prog 61 [.slice (a.map D.ints)] false (.sl 0) [(0, .dp (some (47, 1)) (a.map D.ints) none)] := by
  refine Ctr.of (n := 23) (rs := [.tmp 2]) Try.func61 rfl rfl Try.ntmps61 rfl rfl (by kernel_rfl) Try.checked.mixed ?_
  simp (disch := first | omega | decide +kernel) only [go_sem, reduceEqDiff, reduceLT, reduceAdd, reduceMul, reduceSub, ↓reduceIte, reduceCtorEq, reduceLeDiff, reduceSubDiff, Nat.reduceBEq]
  refine ⟨by omega, ?_⟩
  rw [show List.replicate a.length (D.slice []) = (List.replicate a.length (([] : List Int) : (List Int))).map D.ints by simp [D.ints]]
  refine Ok.loopN [21, 20, 19, 18, 17, 16, 15, 14, 13, 12, 11, 10, 9, 8, 7, 6, 5, 4, 1] (fun i _ => [(4, .d (.int .i64 (i : Nat)))]) (fun _ (cur : List (List Int)) => [(7, .dp (some (47, 1)) (List.map D.ints cur) none)]) a.length
    (fun i cur => cur.length = a.length ∧ ∀ j, j < i → cur.getD j ([] : List Int) = a.getD j ([] : List Int)) (List.replicate a.length ([] : List Int)) ⟨by simp, by simp⟩ ((Wk.deep 7 rfl bare_nils).trans (Wk.kk)) ?_
  rintro R i cur hN hE hi ⟨hcl, hcur⟩
  simp (disch := first | omega | decide +kernel) only [go_sem, reduceEqDiff, reduceLT, reduceAdd, reduceMul, reduceSub, ↓reduceIte, reduceCtorEq, reduceLeDiff, reduceSubDiff, Nat.reduceBEq]
  by_cases hlt : i < a.length
  · have he := hx _ (getD_mem (z := ([] : List Int)) hlt)
    have hlc : i < cur.length := by omega
    have hc := toIntSd_ok (a.getD i []) he
    (repeat' (first | (refine gsel_split (fun h => ?_) (fun h => ?_) <;> (have h' := h) <;> (try simp only [decide_eq_true_eq, decide_eq_false_iff_not, Bool.not_eq_true', Bool.not_eq_false', bne_iff_ne, ne_eq, beq_iff_eq, bne_eq_false_iff_eq, beq_eq_false_iff_ne, Int.ofNat_lt, Int.ofNat_le, Int.not_lt, Int.not_le, Decidable.not_not, Bool.and_eq_true, Bool.or_eq_true, Bool.or_eq_false_iff, gt_iff_lt, ge_iff_le] at h') <;> simp (disch := first | omega | decide +kernel) only [h, go_sem, reduceEqDiff, reduceLT, reduceAdd, reduceMul, reduceSub, ↓reduceIte, reduceCtorEq, reduceLeDiff, reduceSubDiff, Nat.reduceBEq] <;> clear h) | ((first | refine callX_new (hc) rfl (by decide) ?_ | refine callY_new (hc) rfl ?_ | refine hE _ _ ret_ne ?_ | refine hE _ _ exit_ne ?_) <;> try simp (disch := first | omega | decide +kernel) only [go_sem, reduceEqDiff, reduceLT, reduceAdd, reduceMul, reduceSub, ↓reduceIte, reduceCtorEq, reduceLeDiff, reduceSubDiff, Nat.reduceBEq]) | (refine hN _ ?_ ?_ Wk.kk) | (with_reducible refine And.intro ?_ ?_) | (with_reducible omega) | (exact ok_ints) | (exact cells_ints) | (exact no_mem) | (with_reducible exact plain_ints) | (refine le_maxLen ?_; omega) | (refine List.forall_mem_cons.2 ⟨?_, ?_⟩) | (simp only [go_sem, Nat.reduceAdd, Nat.reduceLT, List.mem_cons, List.not_mem_nil, forall_eq]; done)))
    · refine hN (cur.set i (a.getD i ([] : List Int))) _ hlt ⟨by simp [hcl], fun j hj => ?_⟩ (by refine Wk.auto ?_ ?_ <;> simp [extraK, lk, killL, St.kill, wipeO, wipeS, AV.has, AV.hasL, AO.wipe, List.map_set, updSt, insL, dropS, ins, D.ints])
      rw [set_getDz ([] : List Int) _ _ _ _ hlc]
      by_cases e : j = i
      · subst e; simp
      · rw [if_neg e]; exact hcur j (by omega)
  · (repeat' (first | (refine gsel_split (fun h => ?_) (fun h => ?_) <;> (have h' := h) <;> (try simp only [decide_eq_true_eq, decide_eq_false_iff_not, Bool.not_eq_true', Bool.not_eq_false', bne_iff_ne, ne_eq, beq_iff_eq, bne_eq_false_iff_eq, beq_eq_false_iff_ne, Int.ofNat_lt, Int.ofNat_le, Int.not_lt, Int.not_le, Decidable.not_not, Bool.and_eq_true, Bool.or_eq_true, Bool.or_eq_false_iff, gt_iff_lt, ge_iff_le] at h') <;> simp (disch := first | omega | decide +kernel) only [h, go_sem, reduceEqDiff, reduceLT, reduceAdd, reduceMul, reduceSub, ↓reduceIte, reduceCtorEq, reduceLeDiff, reduceSubDiff, Nat.reduceBEq] <;> clear h) | ((first | refine hE _ _ ret_ne ?_ | refine hE _ _ exit_ne ?_) <;> try simp (disch := first | omega | decide +kernel) only [go_sem, reduceEqDiff, reduceLT, reduceAdd, reduceMul, reduceSub, ↓reduceIte, reduceCtorEq, reduceLeDiff, reduceSubDiff, Nat.reduceBEq]) | (refine hN _ ?_ ?_ Wk.kk) | (with_reducible refine And.intro ?_ ?_) | (with_reducible omega) | (exact ok_ints) | (exact cells_ints) | (exact no_mem) | (with_reducible exact plain_ints) | (refine le_maxLen ?_; omega) | (refine List.forall_mem_cons.2 ⟨?_, ?_⟩) | (simp only [go_sem, Nat.reduceAdd, Nat.reduceLT, List.mem_cons, List.not_mem_nil, forall_eq]; done)))
    · obtain rfl : cur = a := ext_getDz ([] : List Int) hcl fun j hj => hcur j (by omega)
      exact ret_dp 7 rfl rfl
theorem toCnfd_ok (v : Int) (a : List (List Int)) (hl : a.length ≤ 4294967296) (hx : ∀ x ∈ a, x.length ≤ 4294967296) : Ctr Try.prog 15 [.agg [.int .i64 v, .slice (a.map D.ints)]] false (.st [.d (.int .i64 v), .sl 0]) [(0, .dp (some (47, 1)) (a.map D.ints) none)] := by
  have hc := toIntSSd_ok a hl hx
  refine Ctr.of (n := 12) (rs := [.cell 2 30]) Try.func15 rfl rfl Try.ntmps15 rfl rfl (by kernel_rfl) Try.checked.mixed ?_
  simp (disch := first | omega | decide +kernel) only [go_sem, reduceEqDiff, reduceLT, reduceAdd, reduceMul, reduceSub, ↓reduceIte, reduceCtorEq, reduceLeDiff, reduceSubDiff, Nat.reduceBEq]
  (repeat' (first | (refine gsel_split (fun h => ?_) (fun h => ?_) <;> (have h' := h) <;> (try simp only [decide_eq_true_eq, decide_eq_false_iff_not, Bool.not_eq_true', Bool.not_eq_false', bne_iff_ne, ne_eq, beq_iff_eq, bne_eq_false_iff_eq, beq_eq_false_iff_ne, Int.ofNat_lt, Int.ofNat_le, Int.not_lt, Int.not_le, Decidable.not_not, Bool.and_eq_true, Bool.or_eq_true, Bool.or_eq_false_iff, gt_iff_lt, ge_iff_le] at h') <;> simp (disch := first | omega | decide +kernel) only [h, go_sem, reduceEqDiff, reduceLT, reduceAdd, reduceMul, reduceSub, ↓reduceIte, reduceCtorEq, reduceLeDiff, reduceSubDiff, Nat.reduceBEq] <;> clear h) | ((first | refine callX_new (hc) rfl (by decide) ?_ | refine callY_new (hc) rfl ?_ | refine hE _ _ ret_ne ?_ | refine hE _ _ exit_ne ?_) <;> try simp (disch := first | omega | decide +kernel) only [go_sem, reduceEqDiff, reduceLT, reduceAdd, reduceMul, reduceSub, ↓reduceIte, reduceCtorEq, reduceLeDiff, reduceSubDiff, Nat.reduceBEq]) | (refine hN _ ?_ ?_ Wk.kk) | (with_reducible refine And.intro ?_ ?_) | (with_reducible omega) | (exact ok_ints) | (exact cells_ints) | (exact no_mem) | (with_reducible exact plain_ints) | (refine le_maxLen ?_; omega) | (refine List.forall_mem_cons.2 ⟨?_, ?_⟩) | (simp only [go_sem, Nat.reduceAdd, Nat.reduceLT, List.mem_cons, List.not_mem_nil, forall_eq]; done)))
  exact ret_cst rfl rfl (by simp only [go_sem]) (by simp only [go_sem, List.length_cons, List.length_nil]) rfl (by simp only [go_sem]) rfl rfl ⟨rfl, trivial, trivial⟩ trivial rfl
theorem markCnf_ok (τ : Option (TypeId × Nat)) (v : Int) (a : List (List Int)) (k : Int) (h0 : 0 ≤ k) (h1 : k + lenSS a ≤ 9000000000000000000) (hl : a.length ≤ 4294967296) :
    CtrM Try.prog 42 [.st [.d (.int .i64 v), .sl 0], .d (.int .i64 k)] [(0, .dp τ (a.map D.ints) none)] [0] false (.d (.int .i64 (k + lenSS a))) [(0, .dp τ ((cntSS a k).map D.ints) none)] := by
  have hc := markIntSS_ok τ a k h0 h1 hl
  refine CtrM.of (n := 10) (rs := [.tmp 4]) Try.func42 rfl rfl Try.ntmps42 rfl rfl (by kernel_rfl) Try.checked.mixed ?_; intro u
  simp (disch := first | omega | decide +kernel) only [go_sem, reduceEqDiff, reduceLT, reduceAdd, reduceMul, reduceSub, ↓reduceIte, reduceCtorEq, reduceLeDiff, reduceSubDiff, Nat.reduceBEq]
  (repeat' (first | (refine gsel_split (fun h => ?_) (fun h => ?_) <;> (have h' := h) <;> (try simp only [decide_eq_true_eq, decide_eq_false_iff_not, Bool.not_eq_true', Bool.not_eq_false', bne_iff_ne, ne_eq, beq_iff_eq, bne_eq_false_iff_eq, beq_eq_false_iff_ne, Int.ofNat_lt, Int.ofNat_le, Int.not_lt, Int.not_le, Decidable.not_not, Bool.and_eq_true, Bool.or_eq_true, Bool.or_eq_false_iff, gt_iff_lt, ge_iff_le] at h') <;> simp (disch := first | omega | decide +kernel) only [h, go_sem, reduceEqDiff, reduceLT, reduceAdd, reduceMul, reduceSub, ↓reduceIte, reduceCtorEq, reduceLeDiff, reduceSubDiff, Nat.reduceBEq] <;> clear h) | ((first | refine hE _ _ ret_ne ?_ | refine hE _ _ exit_ne ?_) <;> try simp (disch := first | omega | decide +kernel) only [go_sem, reduceEqDiff, reduceLT, reduceAdd, reduceMul, reduceSub, ↓reduceIte, reduceCtorEq, reduceLeDiff, reduceSubDiff, Nat.reduceBEq]) | (refine hN _ ?_ ?_ Wk.kk) | (with_reducible refine And.intro ?_ ?_) | (with_reducible omega) | (exact ok_ints) | (exact cells_ints) | (exact no_mem) | (with_reducible exact plain_ints) | (refine le_maxLen ?_; omega) | (refine List.forall_mem_cons.2 ⟨?_, ?_⟩) | (simp only [go_sem, Nat.reduceAdd, Nat.reduceLT, List.mem_cons, List.not_mem_nil, forall_eq]; done)))
  refine callX_keep _ hc ⟨.inl rfl, .inl rfl, trivial⟩ rfl (by simp [dstB]) ?_
  simp (disch := first | omega | decide +kernel) only [go_sem, reduceEqDiff, reduceLT, reduceAdd, reduceMul, reduceSub, ↓reduceIte, reduceCtorEq, reduceLeDiff, reduceSubDiff, Nat.reduceBEq]
  (repeat' (first | (refine gsel_split (fun h => ?_) (fun h => ?_) <;> (have h' := h) <;> (try simp only [decide_eq_true_eq, decide_eq_false_iff_not, Bool.not_eq_true', Bool.not_eq_false', bne_iff_ne, ne_eq, beq_iff_eq, bne_eq_false_iff_eq, beq_eq_false_iff_ne, Int.ofNat_lt, Int.ofNat_le, Int.not_lt, Int.not_le, Decidable.not_not, Bool.and_eq_true, Bool.or_eq_true, Bool.or_eq_false_iff, gt_iff_lt, ge_iff_le] at h') <;> simp (disch := first | omega | decide +kernel) only [h, go_sem, reduceEqDiff, reduceLT, reduceAdd, reduceMul, reduceSub, ↓reduceIte, reduceCtorEq, reduceLeDiff, reduceSubDiff, Nat.reduceBEq] <;> clear h) | ((first | refine hE _ _ ret_ne ?_ | refine hE _ _ exit_ne ?_) <;> try simp (disch := first | omega | decide +kernel) only [go_sem, reduceEqDiff, reduceLT, reduceAdd, reduceMul, reduceSub, ↓reduceIte, reduceCtorEq, reduceLeDiff, reduceSubDiff, Nat.reduceBEq]) | (refine hN _ ?_ ?_ Wk.kk) | (with_reducible refine And.intro ?_ ?_) | (with_reducible omega) | (exact ok_ints) | (exact cells_ints) | (exact no_mem) | (with_reducible exact plain_ints) | (refine le_maxLen ?_; omega) | (refine List.forall_mem_cons.2 ⟨?_, ?_⟩) | (simp only [go_sem, Nat.reduceAdd, Nat.reduceLT, List.mem_cons, List.not_mem_nil, forall_eq]; done)))
  exact retM_d rfl rfl rfl rfl trivial rfl
end Abs.Y

namespace Abs.Y
open Go Go.Proofs Abs
open Nat (reduceEqDiff reduceLT reduceAdd reduceMul reduceSub reduceLeDiff reduceSubDiff)
set_option maxRecDepth 100000

set_option maxHeartbeats 8000000 in
theorem law_SpanDimensions : ∀ xs, AllR [isI64, isSt [isI64, isSl (isSl isI64)]] xs → Ctr Try.prog 7 xs false (.d (.bool true)) [] := by
  intro xs hx
  obtain ⟨x0, ys, rfl, h0, hx⟩ := allR_cons hx
  obtain ⟨x1, ys, rfl, h1, hx⟩ := allR_cons hx
  obtain rfl := allR_nil hx
  obtain ⟨p, rfl, _⟩ := h0
  obtain ⟨v, cs, rfl, hcl, hcx⟩ := r_cnf h1
  have e1 := szS_szF szI_szF cs 1048576 (by omega)
  have s1 := szCnf_ok v cs 1048576 hcl hcx ⟨by omega, by omega⟩
  by_cases hz1 : szS szI cs 1048576 < 0
  · refine Ctr.of (n := 101) (rs := [.tmp 4]) Try.func7 rfl rfl Try.ntmps7 rfl rfl (by kernel_rfl) Try.checked.mixed ?_
    simp (disch := first | omega | decide +kernel) only [go_sem, reduceEqDiff, reduceLT, reduceAdd, reduceMul, reduceSub, ↓reduceIte, reduceCtorEq, reduceLeDiff, reduceSubDiff, Nat.reduceBEq]
    (repeat' (first | (refine gsel_split (fun h => ?_) (fun h => ?_) <;> (have h' := h) <;> (try simp only [decide_eq_true_eq, decide_eq_false_iff_not, Bool.not_eq_true', Bool.not_eq_false', bne_iff_ne, ne_eq, beq_iff_eq, bne_eq_false_iff_eq, beq_eq_false_iff_ne, Int.ofNat_lt, Int.ofNat_le, Int.not_lt, Int.not_le, Decidable.not_not, Bool.and_eq_true, Bool.or_eq_true, Bool.or_eq_false_iff, gt_iff_lt, ge_iff_le] at h') <;> simp (disch := first | omega | decide +kernel) only [h, go_sem, reduceEqDiff, reduceLT, reduceAdd, reduceMul, reduceSub, ↓reduceIte, reduceCtorEq, reduceLeDiff, reduceSubDiff, Nat.reduceBEq] <;> clear h) | ((first | refine callX_new (s1) rfl (by decide) ?_ | refine callY_new (s1) rfl ?_ | refine hE _ _ ret_ne ?_ | refine hE _ _ exit_ne ?_) <;> try simp (disch := first | omega | decide +kernel) only [go_sem, reduceEqDiff, reduceLT, reduceAdd, reduceMul, reduceSub, ↓reduceIte, reduceCtorEq, reduceLeDiff, reduceSubDiff, Nat.reduceBEq]) | (refine hN _ ?_ ?_ Wk.kk) | (with_reducible refine And.intro ?_ ?_) | (with_reducible omega) | (exact ok_ints) | (exact cells_ints) | (exact no_mem) | (with_reducible exact plain_ints) | (refine le_maxLen ?_; omega) | (refine List.forall_mem_cons.2 ⟨?_, ?_⟩) | (simp only [go_sem, Nat.reduceAdd, Nat.reduceLT, List.mem_cons, List.not_mem_nil, forall_eq]; done)))
  have l1 := szS_len (f := szI) (a := cs) (left := 1048576) (by omega)
  have x1 : ∀ x ∈ cs, x.length ≤ 1048576 := fun x hx => by
    obtain ⟨y, h3, h4, h5⟩ := szS_each szI_szF (a := cs) (left := 1048576) (by omega) x hx
    have := szI_len h5; omega
  have hc : ∀ j, (cs.getD j []).length ≤ 1048576 := fun j => by
    by_cases hj : j < cs.length
    · exact x1 _ (getD_mem hj)
    · rw [List.getD_eq_getElem?_getD, List.getElem?_eq_none (by omega)]; simp
  have hcl' : cs.length ≤ 4294967296 := by omega
  have hcs : ∀ x ∈ cs, x.length ≤ 4294967296 := fun x hx => Nat.le_trans (x1 x hx) (by omega)
  have t1 := toCnf_ok v cs hcl' hcs
  have q1 := eqCnf_ok v v cs cs hcl' hcs
  obtain ⟨dim, hD⟩ : ∃ dim : Nat → Nat, ∀ (u : Nat) (hp : p = 2 ∨ p = 3 ∨ p = 5) (hu : u ≤ 6) (d : Nat), v = u → (basR hp hu cs d).length = dim d := by
    by_cases h : (p = 2 ∨ p = 3 ∨ p = 5) ∧ v.toNat ≤ 6
    · refine ⟨fun d => (basR h.1 h.2 cs d).length, fun u hp hu d e => ?_⟩
      subst e
      rfl
    · exact ⟨fun _ => 0, fun u hp hu d e => absurd ⟨hp, by omega⟩ h⟩
  have d1 := toCnfd_ok v cs hcl' hcs
  have c1 := specDims_ok p v cs (by omega) hc dim hD
  have c2 := (implDims_ok p v cs (by omega) hc dim hD).deep (by rw [bare_ints]; trivial)
  have hR : (if primeB p v && okCnf v cs then dimsL dim 7 else []).length ≤ 7 := by split <;> simp [dimsL]
  have hlen := lenSS_bound (a := cs) (B := 1048576) x1
  have m1 := fun τ => markCnf_ok τ v cs 1 (by omega) (by omega) hcl'
  clear hD
  generalize (if primeB p v && okCnf v cs then dimsL dim 7 else []) = R at *
  generalize (primeB p v && okCnf v cs) = B at *
  have q0 := eqIntS_ok R R (by omega)
  have m3 := fun τ => markIntS_ok τ R 1 (by omega) (by omega)
  have hh := heldIntS_ok R.length 1 (by omega) (by omega)
  clear e1 hz1 h1
  refine Ctr.of (n := 101) (rs := [.tmp 4]) Try.func7 rfl rfl Try.ntmps7 rfl rfl (by kernel_rfl) Try.checked.mixed ?_
  simp (disch := first | omega | decide +kernel) only [go_sem, reduceEqDiff, reduceLT, reduceAdd, reduceMul, reduceSub, ↓reduceIte, reduceCtorEq, reduceLeDiff, reduceSubDiff, Nat.reduceBEq]
  (repeat' (first | (refine gsel_split (fun h => ?_) (fun h => ?_) <;> (have h' := h) <;> (try simp only [decide_eq_true_eq, decide_eq_false_iff_not, Bool.not_eq_true', Bool.not_eq_false', bne_iff_ne, ne_eq, beq_iff_eq, bne_eq_false_iff_eq, beq_eq_false_iff_ne, Int.ofNat_lt, Int.ofNat_le, Int.not_lt, Int.not_le, Decidable.not_not, Bool.and_eq_true, Bool.or_eq_true, Bool.or_eq_false_iff, gt_iff_lt, ge_iff_le] at h') <;> simp (disch := first | omega | decide +kernel) only [h, go_sem, reduceEqDiff, reduceLT, reduceAdd, reduceMul, reduceSub, ↓reduceIte, reduceCtorEq, reduceLeDiff, reduceSubDiff, Nat.reduceBEq] <;> clear h) | ((first | refine callX_new (s1) rfl (by decide) ?_ | refine callY_new (s1) rfl ?_ | refine callX_new (d1) rfl (by decide) ?_ | refine callY_new (d1) rfl ?_ | refine callX_new (c1) rfl (by decide) ?_ | refine callY_new (c1) rfl ?_ | refine callX_new (c2) rfl (by decide) ?_ | refine callY_new (c2) rfl ?_ | refine callX_new (q0) rfl (by decide) ?_ | refine callY_new (q0) rfl ?_ | refine callX_new (q1) rfl (by decide) ?_ | refine callY_new (q1) rfl ?_ | refine callX_keep _ (m1 _) ⟨.inl rfl, .inl rfl, trivial⟩ rfl (by simp [dstB]) ?_ | refine callX_keep _ (m3 _) ⟨.inl rfl, .inl rfl, trivial⟩ rfl (by simp [dstB]) ?_ | refine callX_new (hh) rfl (by decide) ?_ | refine callY_new (hh) rfl ?_ | refine callX_shared (t1) rfl (by decide) ?_ | refine callY_shared (t1) rfl ?_ | refine hE _ _ ret_ne ?_ | refine hE _ _ exit_ne ?_) <;> try simp (disch := first | omega | decide +kernel) only [go_sem, reduceEqDiff, reduceLT, reduceAdd, reduceMul, reduceSub, ↓reduceIte, reduceCtorEq, reduceLeDiff, reduceSubDiff, Nat.reduceBEq]) | (refine hN _ ?_ ?_ Wk.kk) | (with_reducible refine And.intro ?_ ?_) | (with_reducible omega) | (exact ok_ints) | (exact cells_ints) | (exact no_mem) | (with_reducible exact plain_ints) | (refine le_maxLen ?_; omega) | (refine List.forall_mem_cons.2 ⟨?_, ?_⟩) | (simp only [go_sem, Nat.reduceAdd, Nat.reduceLT, List.mem_cons, List.not_mem_nil, forall_eq]; done)))
  all_goals (first | exact absurd trivial h' | omega)
end Abs.Y
