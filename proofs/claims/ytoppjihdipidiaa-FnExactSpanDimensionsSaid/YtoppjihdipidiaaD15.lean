/- What functions of this program compute, as contracts over plain data, with what the proofs need of them. No condition. -/
import Derived.Test.YtoppjihdipidiaaD12
import Derived.Test.YtoppjihdipidiaaW8
import Derived.Test.YtoppjihdipidiaaAbsShelf2
import Derived.Test.YtoppjihdipidiaaV2
import Derived.Lib.RowBridge
import Derived.Shelf.SlSortCmp.NoneTotal
set_option linter.all false
namespace Abs.Y
open Go Go.Proofs Abs Go.Sort Go.Shelf Go.Lib Go.RowKit
set_option maxRecDepth 100000

theorem onesAll64_ok : Ctr Try.prog 203 [.int .u64 18446744073709551615] false (.d (.int .i64 64)) [] := by
  refine Ctr.of (n := 35) (rs := [.tmp 2]) Try.func203 rfl rfl Try.ntmps203 rfl rfl (by kernel_rfl) Try.checked.mixed ?_
  simp (disch := first | omega | decide +kernel) only [go_sem, Nat.reduceEqDiff, Nat.reduceLT, Nat.reduceAdd, Nat.reduceMul, Nat.reduceSub, ↓reduceIte, reduceCtorEq, Nat.reduceLeDiff, Nat.reduceSubDiff, Nat.reduceBEq]
  (repeat' (first | (refine gsel_split (fun h => ?_) (fun h => ?_) <;> (have h' := h) <;> (try simp only [decide_eq_true_eq, decide_eq_false_iff_not, Bool.not_eq_true', Bool.not_eq_false', bne_iff_ne, ne_eq, beq_iff_eq, bne_eq_false_iff_eq, beq_eq_false_iff_ne, Int.ofNat_lt, Int.ofNat_le, Int.not_lt, Int.not_le, Decidable.not_not, Bool.and_eq_true, Bool.or_eq_true, Bool.or_eq_false_iff, gt_iff_lt, ge_iff_le] at h') <;> first | (exfalso; omega) | (simp (disch := first | omega | decide +kernel) only [h, go_sem, Nat.reduceEqDiff, Nat.reduceLT, Nat.reduceAdd, Nat.reduceMul, Nat.reduceSub, ↓reduceIte, reduceCtorEq, Nat.reduceLeDiff, Nat.reduceSubDiff, Nat.reduceBEq] <;> clear h)) | ((first | refine hE _ _ ret_ne ?_ | refine hE _ _ exit_ne ?_) <;> try simp (disch := first | omega | decide +kernel) only [go_sem, Nat.reduceEqDiff, Nat.reduceLT, Nat.reduceAdd, Nat.reduceMul, Nat.reduceSub, ↓reduceIte, reduceCtorEq, Nat.reduceLeDiff, Nat.reduceSubDiff, Nat.reduceBEq]) | (refine hN _ ?_ ?_ Wk.kk) | (with_reducible refine And.intro ?_ ?_) | (with_reducible omega) | (exact ok_ints) | (exact cells_ints) | (exact no_mem) | (with_reducible exact plain_ints) | (refine le_maxLen ?_; omega) | (refine List.forall_mem_cons.2 ⟨?_, ?_⟩) | (simp only [go_sem, Nat.reduceAdd, Nat.reduceLT, List.mem_cons, List.not_mem_nil, forall_eq]; done)))
  all_goals (first | (refine congrArg (D.int .i64) ?_; decide +kernel))
theorem onesAll_ok : Ctr Try.prog 175 [.int .u64 18446744073709551615] false (.d (.int .i64 64)) [] := by
  have c1 := onesAll64_ok
  refine Ctr.of (n := 8) (rs := [.tmp 2]) Try.func175 rfl rfl Try.ntmps175 rfl rfl (by kernel_rfl) Try.checked.mixed ?_
  simp (disch := first | omega | decide +kernel) only [go_sem, Nat.reduceEqDiff, Nat.reduceLT, Nat.reduceAdd, Nat.reduceMul, Nat.reduceSub, ↓reduceIte, reduceCtorEq, Nat.reduceLeDiff, Nat.reduceSubDiff, Nat.reduceBEq]
  (repeat' (first | (refine gsel_split (fun h => ?_) (fun h => ?_) <;> (have h' := h) <;> (try simp only [decide_eq_true_eq, decide_eq_false_iff_not, Bool.not_eq_true', Bool.not_eq_false', bne_iff_ne, ne_eq, beq_iff_eq, bne_eq_false_iff_eq, beq_eq_false_iff_ne, Int.ofNat_lt, Int.ofNat_le, Int.not_lt, Int.not_le, Decidable.not_not, Bool.and_eq_true, Bool.or_eq_true, Bool.or_eq_false_iff, gt_iff_lt, ge_iff_le] at h') <;> first | (exfalso; omega) | (simp (disch := first | omega | decide +kernel) only [h, go_sem, Nat.reduceEqDiff, Nat.reduceLT, Nat.reduceAdd, Nat.reduceMul, Nat.reduceSub, ↓reduceIte, reduceCtorEq, Nat.reduceLeDiff, Nat.reduceSubDiff, Nat.reduceBEq] <;> clear h)) | ((first | refine callX_new (c1) rfl (by decide) ?_ | refine callY_new (c1) rfl ?_ | refine hE _ _ ret_ne ?_ | refine hE _ _ exit_ne ?_) <;> try simp (disch := first | omega | decide +kernel) only [go_sem, Nat.reduceEqDiff, Nat.reduceLT, Nat.reduceAdd, Nat.reduceMul, Nat.reduceSub, ↓reduceIte, reduceCtorEq, Nat.reduceLeDiff, Nat.reduceSubDiff, Nat.reduceBEq]) | (refine hN _ ?_ ?_ Wk.kk) | (with_reducible refine And.intro ?_ ?_) | (with_reducible omega) | (exact ok_ints) | (exact cells_ints) | (exact no_mem) | (with_reducible exact plain_ints) | (refine le_maxLen ?_; omega) | (refine List.forall_mem_cons.2 ⟨?_, ?_⟩) | (simp only [go_sem, Nat.reduceAdd, Nat.reduceLT, List.mem_cons, List.not_mem_nil, forall_eq]; done)))
  all_goals (first | omega)
theorem degreeOfNeg_ok : Ctr Try.prog 129 [.int .i64 (-1)] false (.d (.int .i64 64)) [] := by
  have e : IntKind.u64.wrap (-1) = 18446744073709551615 := by decide +kernel
  have c1 := onesAll_ok
  refine Ctr.of (n := 6) (rs := [.tmp 2]) Try.func129 rfl rfl Try.ntmps129 rfl rfl (by kernel_rfl) Try.checked.mixed ?_
  simp (disch := first | omega | decide +kernel) only [e, go_sem, Nat.reduceEqDiff, Nat.reduceLT, Nat.reduceAdd, Nat.reduceMul, Nat.reduceSub, ↓reduceIte, reduceCtorEq, Nat.reduceLeDiff, Nat.reduceSubDiff, Nat.reduceBEq]
  (repeat' (first | (refine gsel_split (fun h => ?_) (fun h => ?_) <;> (have h' := h) <;> (try simp only [decide_eq_true_eq, decide_eq_false_iff_not, Bool.not_eq_true', Bool.not_eq_false', bne_iff_ne, ne_eq, beq_iff_eq, bne_eq_false_iff_eq, beq_eq_false_iff_ne, Int.ofNat_lt, Int.ofNat_le, Int.not_lt, Int.not_le, Decidable.not_not, Bool.and_eq_true, Bool.or_eq_true, Bool.or_eq_false_iff, gt_iff_lt, ge_iff_le] at h') <;> first | (exfalso; omega) | (simp (disch := first | omega | decide +kernel) only [h, e, go_sem, Nat.reduceEqDiff, Nat.reduceLT, Nat.reduceAdd, Nat.reduceMul, Nat.reduceSub, ↓reduceIte, reduceCtorEq, Nat.reduceLeDiff, Nat.reduceSubDiff, Nat.reduceBEq] <;> clear h)) | ((first | refine callX_new (c1) rfl (by decide) ?_ | refine callY_new (c1) rfl ?_ | refine hE _ _ ret_ne ?_ | refine hE _ _ exit_ne ?_) <;> try simp (disch := first | omega | decide +kernel) only [e, go_sem, Nat.reduceEqDiff, Nat.reduceLT, Nat.reduceAdd, Nat.reduceMul, Nat.reduceSub, ↓reduceIte, reduceCtorEq, Nat.reduceLeDiff, Nat.reduceSubDiff, Nat.reduceBEq]) | (refine hN _ ?_ ?_ Wk.kk) | (with_reducible refine And.intro ?_ ?_) | (with_reducible omega) | (exact ok_ints) | (exact cells_ints) | (exact no_mem) | (with_reducible exact plain_ints) | (refine le_maxLen ?_; omega) | (refine List.forall_mem_cons.2 ⟨?_, ?_⟩) | (simp only [go_sem, Nat.reduceAdd, Nat.reduceLT, List.mem_cons, List.not_mem_nil, forall_eq]; done)))
  all_goals (first | omega)
def cI (v : List Int) : Int := if ldI v < 0 then 64 else cnt (ldG v)
theorem cI_facts {v : List Int} (hl : v.length ≤ 64) : (ldI v = -1 ∧ cI v = 64) ∨ (0 ≤ ldI v ∧ ldI v ≤ 63 ∧ 0 ≤ cI v ∧ cI v ≤ 6 ∧ ldI v = (ldG v : Nat) ∧ cI v = cnt (ldG v)) := by
  rcases ldI_or v with ⟨h1, _⟩ | ⟨h1, h2, _⟩
  · refine .inl ⟨h1, ?_⟩
    unfold cI; rw [h1]; rfl
  · refine .inr ⟨by omega, by omega, ?_⟩
    have := cnt_le (ldG v)
    have e : cI v = cnt (ldG v) := by unfold cI; rw [if_neg (by omega)]
    exact ⟨by omega, by omega, h1, e⟩
theorem degreeOfX_ok {v : List Int} (hl : v.length ≤ 64) : Ctr Try.prog 129 [.int .i64 (ldI v)] false (.d (.int .i64 (cI v))) [] := by
  rcases cI_facts hl with ⟨h1, h2⟩ | ⟨_, h1, _, _, h2, h3⟩
  · rw [h1, h2]; exact degreeOfNeg_ok
  · rw [h3, h2]; exact degreeOf_ok (by omega)
def cmpV (a b : List Int) : Int := orI (cmpI (cI a) (cI b)) (cmpI (ldI a) (ldI b))
def keyI (v : List Int) : Int := cI v * 64 + ldI v
theorem cmpV_lt {a b : List Int} (ha : a.length ≤ 64) (hb : b.length ≤ 64) : cmpV a b < 0 ↔ keyI a < keyI b := by
  have h1 := cI_facts ha
  have h2 := cI_facts hb
  unfold cmpV orI keyI
  rcases cmpI_or (cI a) (cI b) with ⟨h3, h4⟩ | ⟨h3, h4⟩ | ⟨h3, h4⟩
  · rw [h4, if_pos (by decide)]; constructor <;> intro h <;> omega
  · rw [h4, if_pos (by decide)]; constructor <;> intro h <;> omega
  · rw [h4, if_neg (by decide)]
    rcases cmpI_or (ldI a) (ldI b) with ⟨h5, h6⟩ | ⟨h5, h6⟩ | ⟨h5, h6⟩ <;> rw [h6] <;> constructor <;> intro h <;> omega
theorem compareMonosX_ok {a b : List Int} (ha : a.length ≤ 64) (hb : b.length ≤ 64) : Ctr Try.prog 162 [.int .i64 (ldI a), .int .i64 (ldI b)] false (.d (.int .i64 (cmpV a b))) [] := by
  have c1 := degreeOfX_ok ha
  have c2 := degreeOfX_ok hb
  have c3 := compare_ok (cI a) (cI b)
  have c4 := compare_ok (ldI a) (ldI b)
  have c5 := or_ok (cmpI (cI a) (cI b)) (cmpI (ldI a) (ldI b))
  have h1 := cI_facts ha
  have h2 := cI_facts hb
  unfold cmpV
  generalize cI a = x at *
  generalize cI b = y at *
  generalize ldI a = z at *
  generalize ldI b = w at *
  clear h1 h2
  refine Ctr.of (n := 15) (rs := [.tmp 4]) Try.func162 rfl rfl Try.ntmps162 rfl rfl (by kernel_rfl) Try.checked.mixed ?_
  simp (disch := first | omega | decide +kernel) only [go_sem, Nat.reduceEqDiff, Nat.reduceLT, Nat.reduceAdd, Nat.reduceMul, Nat.reduceSub, ↓reduceIte, reduceCtorEq, Nat.reduceLeDiff, Nat.reduceSubDiff, Nat.reduceBEq]
  (repeat' (first | (refine gsel_split (fun h => ?_) (fun h => ?_) <;> (have h' := h) <;> (try simp only [decide_eq_true_eq, decide_eq_false_iff_not, Bool.not_eq_true', Bool.not_eq_false', bne_iff_ne, ne_eq, beq_iff_eq, bne_eq_false_iff_eq, beq_eq_false_iff_ne, Int.ofNat_lt, Int.ofNat_le, Int.not_lt, Int.not_le, Decidable.not_not, Bool.and_eq_true, Bool.or_eq_true, Bool.or_eq_false_iff, gt_iff_lt, ge_iff_le] at h') <;> first | (exfalso; omega) | (simp (disch := first | omega | decide +kernel) only [h, go_sem, Nat.reduceEqDiff, Nat.reduceLT, Nat.reduceAdd, Nat.reduceMul, Nat.reduceSub, ↓reduceIte, reduceCtorEq, Nat.reduceLeDiff, Nat.reduceSubDiff, Nat.reduceBEq] <;> clear h)) | ((first | refine callX_new (c1) rfl (by decide) ?_ | refine callY_new (c1) rfl ?_ | refine callX_new (c2) rfl (by decide) ?_ | refine callY_new (c2) rfl ?_ | refine callX_new (c3) rfl (by decide) ?_ | refine callY_new (c3) rfl ?_ | refine callX_new (c4) rfl (by decide) ?_ | refine callY_new (c4) rfl ?_ | refine callX_new (c5) rfl (by decide) ?_ | refine callY_new (c5) rfl ?_ | refine hE _ _ ret_ne ?_ | refine hE _ _ exit_ne ?_) <;> try simp (disch := first | omega | decide +kernel) only [go_sem, Nat.reduceEqDiff, Nat.reduceLT, Nat.reduceAdd, Nat.reduceMul, Nat.reduceSub, ↓reduceIte, reduceCtorEq, Nat.reduceLeDiff, Nat.reduceSubDiff, Nat.reduceBEq]) | (refine hN _ ?_ ?_ Wk.kk) | (with_reducible refine And.intro ?_ ?_) | (with_reducible omega) | (exact ok_ints) | (exact cells_ints) | (exact no_mem) | (with_reducible exact plain_ints) | (refine le_maxLen ?_; omega) | (refine List.forall_mem_cons.2 ⟨?_, ?_⟩) | (simp only [go_sem, Nat.reduceAdd, Nat.reduceLT, List.mem_cons, List.not_mem_nil, forall_eq]; done)))
  all_goals (first | omega | rfl)
theorem cmpSpan_ok {a b : List Int} (ha : a.length ≤ 64) (hb : b.length ≤ 64) : Ctr Try.prog 161 [.ints a, .ints b] false (.d (.int .i64 (cmpV a b))) [] := by
  have c1 := leading_ok ha
  have c2 := leading_ok hb
  have c3 := compareMonosX_ok ha hb
  generalize ldI a = x at *
  generalize ldI b = y at *
  generalize cmpV a b = z at *
  refine Ctr.of (n := 10) (rs := [.tmp 4]) Try.func161 rfl rfl Try.ntmps161 rfl rfl (by kernel_rfl) Try.checked.mixed ?_
  simp (disch := first | omega | decide +kernel) only [D.ints, go_sem, Nat.reduceEqDiff, Nat.reduceLT, Nat.reduceAdd, Nat.reduceMul, Nat.reduceSub, ↓reduceIte, reduceCtorEq, Nat.reduceLeDiff, Nat.reduceSubDiff, Nat.reduceBEq]
  (repeat' (first | (refine gsel_split (fun h => ?_) (fun h => ?_) <;> (have h' := h) <;> (try simp only [decide_eq_true_eq, decide_eq_false_iff_not, Bool.not_eq_true', Bool.not_eq_false', bne_iff_ne, ne_eq, beq_iff_eq, bne_eq_false_iff_eq, beq_eq_false_iff_ne, Int.ofNat_lt, Int.ofNat_le, Int.not_lt, Int.not_le, Decidable.not_not, Bool.and_eq_true, Bool.or_eq_true, Bool.or_eq_false_iff, gt_iff_lt, ge_iff_le] at h') <;> first | (exfalso; omega) | (simp (disch := first | omega | decide +kernel) only [h, D.ints, go_sem, Nat.reduceEqDiff, Nat.reduceLT, Nat.reduceAdd, Nat.reduceMul, Nat.reduceSub, ↓reduceIte, reduceCtorEq, Nat.reduceLeDiff, Nat.reduceSubDiff, Nat.reduceBEq] <;> clear h)) | ((first | refine callX_new (c1) rfl (by decide) ?_ | refine callY_new (c1) rfl ?_ | refine callX_new (c2) rfl (by decide) ?_ | refine callY_new (c2) rfl ?_ | refine callX_new (c3) rfl (by decide) ?_ | refine callY_new (c3) rfl ?_ | refine hE _ _ ret_ne ?_ | refine hE _ _ exit_ne ?_) <;> try simp (disch := first | omega | decide +kernel) only [D.ints, go_sem, Nat.reduceEqDiff, Nat.reduceLT, Nat.reduceAdd, Nat.reduceMul, Nat.reduceSub, ↓reduceIte, reduceCtorEq, Nat.reduceLeDiff, Nat.reduceSubDiff, Nat.reduceBEq]) | (refine hN _ ?_ ?_ Wk.kk) | (with_reducible refine And.intro ?_ ?_) | (with_reducible omega) | (exact ok_ints) | (exact cells_ints) | (exact no_mem) | (with_reducible exact plain_ints) | (refine le_maxLen ?_; omega) | (refine List.forall_mem_cons.2 ⟨?_, ?_⟩) | (simp only [go_sem, Nat.reduceAdd, Nat.reduceLT, List.mem_cons, List.not_mem_nil, forall_eq]; done)))
  all_goals (first | omega)
def cfV (R : List (List Int)) (i j : Nat) : Int := cmpV (R.getD i []) (R.getD j [])
theorem len_getD {R : List (List Int)} (hl : ∀ x ∈ R, x.length ≤ 64) (i : Nat) : (R.getD i []).length ≤ 64 := by
  by_cases h : i < R.length
  · exact hl _ (getD_mem h)
  · rw [List.getD_eq_getElem?_getD, List.getElem?_eq_none (by omega)]; simp
theorem cfV_lt {R : List (List Int)} (hl : ∀ x ∈ R, x.length ≤ 64) (i j : Nat) : ltOf (cfV R) i j = decide (keyI (R.getD i []) < keyI (R.getD j [])) :=
  decide_eq_decide.2 (cmpV_lt (len_getD hl i) (len_getD hl j))
theorem cfV_swo {R : List (List Int)} (hl : ∀ x ∈ R, x.length ≤ 64) : SWO (ltOf (cfV R)) where
  irrefl i := by rw [cfV_lt hl]; simp
  trans i j k h1 h2 := by
    rw [cfV_lt hl] at *
    simp only [decide_eq_true_eq] at *
    omega
  ntrans i j k h1 h2 := by
    rw [cfV_lt hl] at *
    simp only [decide_eq_false_iff_not] at *
    omega
def sortV (R : List (List Int)) (L : Nat) : List (List Int) := (pdq (ltOf (cfV R)) (Array.range R.length) 0 R.length L true true).toList.map (fun i => R.getD i [])
theorem range_map_getV (cs : List (List Int)) : (List.range cs.length).map (fun i => cs.getD i []) = cs := by
  apply List.ext_getElem (by simp)
  intro i h1 h2
  simp [List.getD_eq_getElem?_getD, h2]
theorem pdqV {R : List (List Int)} (hl : ∀ x ∈ R, x.length ≤ 64) (L : Nat) : let d' := pdq (ltOf (cfV R)) (Array.range R.length) 0 R.length L true true
    d'.size = R.length ∧ (d'.toList.Perm (List.range R.length)) ∧ ∀ i j, i < j → j < R.length → ltOf (cfV R) d'[j]! d'[i]! = false := by
  intro d'
  have hps := pdq_sorts (ltOf (cfV R)) (cfV_swo hl) (Array.range R.length) 0 (Array.range R.length).size L true true (Nat.zero_le _) (Nat.le_refl _) (Or.inl rfl)
  simp only [Array.size_range] at hps
  change _ ∧ _ at hps
  obtain ⟨hp, hso⟩ := hps
  obtain ⟨hp1, _, hp3⟩ := hp
  change d'.size = _ at hp1
  simp only [Array.size_range] at hp1
  have hx1 : d'.extract 0 R.length = d' := by rw [← hp1]; simp
  have hx2 : (Array.range R.length).extract 0 R.length = Array.range R.length := by
    have : (Array.range R.length).size = R.length := by simp
    conv => lhs; rw [← this]
    simp
  change (d'.extract 0 R.length).toList.Perm _ at hp3
  rw [hx1, hx2, Array.toList_range] at hp3
  exact ⟨hp1, hp3, fun i j hij hj => hso i j (Nat.zero_le _) hij hj⟩
theorem sortV_perm {R : List (List Int)} (hl : ∀ x ∈ R, x.length ≤ 64) (L : Nat) : (sortV R L).Perm R := by
  have := (pdqV hl L).2.1.map fun i => R.getD i []
  rwa [range_map_getV] at this
theorem sortV_length {R : List (List Int)} (hl : ∀ x ∈ R, x.length ≤ 64) (L : Nat) : (sortV R L).length = R.length := (sortV_perm hl L).length_eq
theorem bitsLenV_ok (n : Nat) (hn : n ≤ 4294967296) : Ctr Try.prog 191 [.int .u64 (n : Int)] false (.d (.int .i64 (Lib.bitLen n : Nat))) [] := by
  refine ⟨⟨_, Try.func191, by kernel_rfl, by kernel_rfl⟩, fun S w vs hl hr => ?_⟩
  obtain ⟨v, rfl⟩ : ∃ v, vs = [v] := by
    match vs, hl with
    | [a], _ => exact ⟨a, rfl⟩
  have h := hr 0 (by simp)
  simp only [List.getD_cons_zero] at h
  cases h
  refine (Try.len_w n hn w).mono fun en w' ⟨he, hw⟩ => ⟨_, he, ?_, ?_⟩
  · subst hw; exact ⟨rfl, rfl, rfl, Nat.le_refl _, Nat.le_refl _, fun _ _ _ => rfl, Nat.le_refl _⟩
  · exact ⟨fun _ => Go.undef, fun _ _ => False, .d (.int _ _), fun j o hj => by simp [lk] at hj, fun j o g hj => by simp [lk] at hj, fun j j' o o' g hj hj' => by simp [lk] at hj⟩
theorem pdqV_ok (R : List (List Int)) (L : Nat) (hL : L ≤ 4294967296) (hn : R.length ≤ 4294967296) (hl : ∀ x ∈ R, x.length ≤ 64) :
    CtrM Try.prog 190 [.sl 0, .d (.int .i64 0), .d (.int .i64 (R.length : Nat)), .d (.int .i64 (L : Nat)), .fn (.func 161) []] [(0, .arr 92 1 (R.map D.ints))] [0] true (.tup []) [(0, .arr 92 1 ((sortV R L).map D.ints))] := by
  have hone : ∀ x ∈ R.map D.ints, x.one = true := fun x hx => by obtain ⟨c, _, rfl⟩ := List.mem_map.1 hx; rfl
  refine CtrM.rowD (es := R.map D.ints) (es' := (sortV R L).map D.ints) (.slice none 0 0) false ⟨_, Try.func190, by kernel_rfl, by kernel_rfl⟩ hone (by simp [sortV_length hl]) (fun _ => by simp [sortV_length hl]) fun S β w rv hl' hr => ?_
  obtain ⟨v0, v1, v2, v3, rfl⟩ : ∃ v0 v1 v2 v3, rv = [v0, v1, v2, v3] := by
    match rv, hl' with
    | [a, b, c, d], _ => exact ⟨a, b, c, d, rfl⟩
  have e0 : v0 = .int .i64 0 := by
    have := hr 0 (by simp)
    simp only [List.getD_cons_zero] at this
    cases this with
    | d h => cases h; rfl
  have e1 : v1 = .int .i64 (R.length : Nat) := by
    have := hr 1 (by simp)
    simp only [List.getD_cons_zero, List.getD_cons_succ] at this
    cases this with
    | d h => cases h; rfl
  have e2 : v2 = .int .i64 (L : Nat) := by
    have := hr 2 (by simp)
    simp only [List.getD_cons_zero, List.getD_cons_succ] at this
    cases this with
    | d h => cases h; rfl
  have e3 : v3 = .func (.func 161) #[] #[] := by
    have := hr 3 (by simp)
    simp only [List.getD_cons_zero, List.getD_cons_succ] at this
    cases this with
    | fn h1 h2 => obtain rfl := List.eq_nil_of_length_eq_zero h1; rfl
  subst e0 e1 e2 e3
  refine ⟨fun h => ?_, fun g cap xs hS hxl hxr hH hg hcap _ => ?_⟩
  · have h0 : R.length = 0 := by simpa using h
    rw [h0]
    exact AnyF.pdqsortCmpFunc_none { Try.layQ with } none 0 L _ w
  have eg : ∀ args w, (callFunc 161 args).run Try.prog w = .ok (.enter 161 args) w := enters_of Try.func161 (by kernel_rfl) rfl
  have hgd : ∀ i, (R.map D.ints).getD i (D.ints []) = D.ints (R.getD i []) := fun i => by
    simp only [List.getD_eq_getElem?_getD, List.getElem?_map]
    cases R[i]? <;> rfl
  have hc : CmpLays1 Try.prog 161 #[] (mkR (.slice none 0 0) xs) (cfV R) g 0 (Array.range (R.map D.ints).length).size w :=
    Ctr.cmpLays (es := R.map D.ints) (zd := D.ints []) (fun w => .nil _) (fun i j => by
      rw [hgd, hgd]; exact cmpSpan_ok (len_getD hl i) (len_getD hl j)) hS hxl hxr
  have h := Any.pdqsortCmpFunc_all Try.layQ (mkR (.slice none 0 0) xs) (cfV R) 161 #[] (cfV_swo hl) g 0 cap (Array.range (R.map D.ints).length) w eg hc ⟨mkR_one rfl hone hxl hxr, hH, hg⟩
    ((Array.range (R.map D.ints).length).size + 1) 0 (Array.range (R.map D.ints).length).size L (Array.range (R.map D.ints).length) w (by omega) rfl (SW.start hH) (Nat.zero_le _) (Nat.le_refl _) (by simp; omega) (by omega) (Or.inl rfl)
  obtain ⟨p1, p2, _⟩ := pdqV hl L
  simp only [Array.size_range, List.length_map] at h ⊢
  have hsv : (pdq (ltOf (cfV R)) (Array.range R.length) 0 R.length L true true).toList.map (fun i => R.getD i []) = sortV R L := rfl
  generalize pdq (ltOf (cfV R)) (Array.range R.length) 0 R.length L true true = d' at *
  refine Calls.mono h fun en w' ⟨he, n, os, hw⟩ => ⟨he, n, d', os, ?_, hw⟩
  have htake : d'.toList.take ((sortV R L).map D.ints).length = d'.toList := by
    rw [List.length_map, sortV_length hl, ← p1, ← Array.length_toList, List.take_length]
  refine ⟨by simp [p1], by simp [p1, sortV_length hl], fun i hi => ?_, ?_⟩
  · rw [htake] at hi
    have := p2.mem_iff.1 hi
    simpa using this
  · rw [htake, ← hsv, List.map_map]
    apply List.map_congr_left
    intro i hi
    have : i < R.length := by have := p2.mem_iff.1 hi; simpa using this
    simp [List.getD_eq_getElem?_getD, this]
theorem sortRows_ok (R : List (List Int)) (hn : R.length ≤ 4294967296) (hl : ∀ x ∈ R, x.length ≤ 64) :
    CtrM Try.prog 160 [.sl 0, .fn (.func 161) []] [(0, .arr 92 1 (R.map D.ints))] [0] true (.tup []) [(0, .arr 92 1 ((sortV R (Lib.bitLen R.length)).map D.ints))] := by
  have c1 := bitsLenV_ok R.length hn
  have hb : Lib.bitLen R.length ≤ 4294967296 := Nat.le_trans (Lib.bitLen_le R.length 62 (by omega) (by omega)) (by omega)
  have c2 := pdqV_ok R (Lib.bitLen R.length) hb hn hl
  have hw : IntKind.u64.wrap (R.length : Int) = (R.length : Nat) := by simp [IntKind.wrap, IntKind.bits, IntKind.signed]; omega
  refine CtrM.of (n := 14) (rs := []) Try.func160 rfl rfl Try.ntmps160 rfl rfl (by kernel_rfl) Try.checked.mixed ?_; intro u
  simp (disch := first | omega | decide +kernel) only [hw, go_sem, Nat.reduceEqDiff, Nat.reduceLT, Nat.reduceAdd, Nat.reduceMul, Nat.reduceSub, ↓reduceIte, reduceCtorEq, Nat.reduceLeDiff, Nat.reduceSubDiff, Nat.reduceBEq]
  (repeat' (first | (refine gsel_split (fun h => ?_) (fun h => ?_) <;> (have h' := h) <;> (try simp only [decide_eq_true_eq, decide_eq_false_iff_not, Bool.not_eq_true', Bool.not_eq_false', bne_iff_ne, ne_eq, beq_iff_eq, bne_eq_false_iff_eq, beq_eq_false_iff_ne, Int.ofNat_lt, Int.ofNat_le, Int.not_lt, Int.not_le, Decidable.not_not, Bool.and_eq_true, Bool.or_eq_true, Bool.or_eq_false_iff, gt_iff_lt, ge_iff_le] at h') <;> simp (disch := first | omega | decide +kernel) only [h, hw, go_sem, Nat.reduceEqDiff, Nat.reduceLT, Nat.reduceAdd, Nat.reduceMul, Nat.reduceSub, ↓reduceIte, reduceCtorEq, Nat.reduceLeDiff, Nat.reduceSubDiff, Nat.reduceBEq] <;> clear h) | ((first | refine callX_new (c1) rfl (by decide) ?_ | refine callY_new (c1) rfl ?_ | refine hE _ _ ret_ne ?_ | refine hE _ _ exit_ne ?_) <;> try simp (disch := first | omega | decide +kernel) only [hw, go_sem, Nat.reduceEqDiff, Nat.reduceLT, Nat.reduceAdd, Nat.reduceMul, Nat.reduceSub, ↓reduceIte, reduceCtorEq, Nat.reduceLeDiff, Nat.reduceSubDiff, Nat.reduceBEq]) | (refine hN _ ?_ ?_ Wk.kk) | (with_reducible refine And.intro ?_ ?_) | (with_reducible omega) | (exact ok_ints) | (exact cells_ints) | (exact no_mem) | (with_reducible exact plain_ints) | (refine le_maxLen ?_; omega) | (refine List.forall_mem_cons.2 ⟨?_, ?_⟩) | (simp only [go_sem, Nat.reduceAdd, Nat.reduceLT, List.mem_cons, List.not_mem_nil, forall_eq]; done)))
  refine callX_shareK 0 c2 ⟨.inl rfl, .inl rfl, .inl rfl, .inl rfl, .inl rfl, trivial⟩ rfl (by simp [dstB]) ?_
  simp (disch := first | omega | decide +kernel) only [hw, go_sem, Nat.reduceEqDiff, Nat.reduceLT, Nat.reduceAdd, Nat.reduceMul, Nat.reduceSub, ↓reduceIte, reduceCtorEq, Nat.reduceLeDiff, Nat.reduceSubDiff, Nat.reduceBEq]
  exact retM_n rfl rfl rfl (.inl rfl)
end Abs.Y
