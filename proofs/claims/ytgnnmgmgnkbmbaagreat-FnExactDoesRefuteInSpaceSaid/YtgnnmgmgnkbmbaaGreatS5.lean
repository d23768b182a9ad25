/- What functions of this program compute, as contracts over plain data, with what the proofs need of them. No condition. -/
import Derived.Test.YtgnnmgmgnkbmbaaGreatS3
set_option linter.all false
namespace Abs.Y
open Go Go.Proofs Abs
set_option maxRecDepth 100000

/-! ### The reference's steps in space -/
theorem ret_s3 {P t u v x y z st} (js : List Nat) (h : lk t (frzs js st).s = some (.d x)) (h' : lk u (frzs js st).s = some (.d y)) (h'' : lk v (frzs js st).s = some (.d z)) : retQ P [.tmp t, .tmp u, .tmp v] true (.tup [.d x, .d y, .d z]) [] .ret st := by
  refine .inr ⟨rfl, js, ?_⟩
  simp only [retO, resV, h, h', h'']; exact ⟨trivial, .nil rfl, .inl trivial⟩
theorem insI_at {list : List (List Int)} {c : List Int} (h : ¬ (plI list c < list.length ∧ list.getD (plI list c) [] = c)) : insI list c = list.take (plI list c) ++ c :: list.drop (plI list c) := by
  unfold insI; rw [if_neg h]
theorem insI_in {list : List (List Int)} {c : List Int} (h : plI list c < list.length ∧ list.getD (plI list c) [] = c) : insI list c = list := by
  unfold insI; rw [if_pos h]
theorem cells_intss {r : List (List Int)} : ∀ y ∈ List.map D.ints r, y.cells.length = 1 := fun x hx => by
  obtain ⟨c, _, rfl⟩ := List.mem_map.1 hx; rfl
set_option maxHeartbeats 4000000 in
theorem l2Insert_ok (list : List (List Int)) (c : List Int) (hl : list.length ≤ 1048576) (hc : c.length ≤ 1048576) (sc : Sm c) (hx : ∀ x ∈ list, x.length ≤ 1048576) (hs : Srt list) :
    Ctr Tryz.prog 63 [.slice (list.map D.ints), .ints c] true (.d (.slice ((insI list c).map D.ints))) [] := by
  have hat := plI_at hs sc
  have c1 := l2Place_ok list c (plI list c) (by omega) (by omega) sc (fun x h => ⟨Nat.le_trans (hx x h) (by omega), hs.2 x h⟩) hat
  have hkl := hat.le
  have hkt : ((plI list c : Nat) : Int).toNat = plI list c := by omega
  have e1 := insI_at (list := list) (c := c)
  have e2 := insI_in (list := list) (c := c)
  generalize plI list c = k at *
  have hd : (list.drop k).take (list.length - k) = list.drop k := List.take_of_length_le (by simp)
  rcases Nat.eq_zero_or_pos k with h0 | h0
  · have hz : list.take k = [] := by rw [h0]; rfl
    by_cases hlt : k < list.length
    · have c2 := l1Same_ok (list.getD k []) c (Nat.le_trans (hx _ (getD_mem (z := ([] : List Int)) hlt)) (by omega))
      refine Ctr.of (n := 34) (rs := [.tmp 4]) Tryz.func63 rfl rfl Tryz.ntmps63 rfl rfl (by kernel_rfl) Tryz.checked.mixed ?_
      simp (disch := first | omega | decide +kernel) only [hz, List.map_nil, el_ints, el_intss, el_steps, wrap_of, Int.toNat_natCast, toNat_pred, Int.toNat_zero, Nat.sub_zero, List.drop_zero, ← List.map_take, ← List.map_drop, go_sem, Nat.reduceEqDiff, Nat.reduceLT, Nat.reduceAdd, Nat.reduceMul, Nat.reduceSub, ↓reduceIte, reduceCtorEq, Nat.reduceLeDiff, Nat.reduceSubDiff, Nat.reduceBEq]
      (repeat' (first | (refine gsel_split (fun h => ?_) (fun h => ?_) <;> (have h' := h) <;> (try simp only [decide_eq_true_eq, decide_eq_false_iff_not, Bool.not_eq_true', Bool.not_eq_false', bne_iff_ne, ne_eq, beq_iff_eq, bne_eq_false_iff_eq, beq_eq_false_iff_ne, Int.ofNat_lt, Int.ofNat_le, Int.not_lt, Int.not_le, Decidable.not_not, Bool.and_eq_true, Bool.or_eq_true, Bool.or_eq_false_iff, gt_iff_lt, ge_iff_le] at h') <;> simp (disch := first | omega | decide +kernel) only [h, el_ints, el_intss, el_steps, wrap_of, Int.toNat_natCast, toNat_pred, Int.toNat_zero, Nat.sub_zero, List.drop_zero, ← List.map_take, ← List.map_drop, D.ints, hz, List.map_nil, go_sem, Nat.reduceEqDiff, Nat.reduceLT, Nat.reduceAdd, Nat.reduceMul, Nat.reduceSub, ↓reduceIte, reduceCtorEq, Nat.reduceLeDiff, Nat.reduceSubDiff, Nat.reduceBEq] <;> clear h) | ((first | refine callX_new (c1) rfl (by decide) ?_ | refine callY_new (c1) rfl ?_ | refine callX_new (c2) rfl (by decide) ?_ | refine callY_new (c2) rfl ?_ | refine hE _ _ ret_ne ?_ | refine hE _ _ exit_ne ?_) <;> try simp (disch := first | omega | decide +kernel) only [el_ints, el_intss, el_steps, wrap_of, Int.toNat_natCast, toNat_pred, Int.toNat_zero, Nat.sub_zero, List.drop_zero, ← List.map_take, ← List.map_drop, D.ints, hz, List.map_nil, go_sem, Nat.reduceEqDiff, Nat.reduceLT, Nat.reduceAdd, Nat.reduceMul, Nat.reduceSub, ↓reduceIte, reduceCtorEq, Nat.reduceLeDiff, Nat.reduceSubDiff, Nat.reduceBEq]) | (refine hN _ ?_ ?_ (Wk.auto (by simp [extraK, lk, killL, St.kill, wipeO, wipeS, AV.has, AV.hasL, AO.wipe, List.map_set, updSt, insL, dropS, ins]) (by simp [extraK, lk, killL, St.kill, wipeO, wipeS, AV.has, AV.hasL, AO.wipe, List.map_set, updSt, insL, dropS, ins]))) | (with_reducible refine And.intro ?_ ?_) | (with_reducible omega) | (exact ok_ints) | (exact cells_ints) | (exact no_mem) | (with_reducible exact plain_ints) | (refine le_maxLen ?_; omega) | (refine List.forall_mem_cons.2 ⟨?_, ?_⟩) | (simp only [go_sem, List.length_cons, List.length_nil, Nat.reduceAdd, Nat.reduceLT, Nat.zero_lt_succ, and_self, List.mem_cons, List.not_mem_nil, or_false, forall_eq]; done)))
      all_goals (first | exact cells_intss | exact ok_intss | exact ok_ints1 | (rw [e2 ⟨hlt, h'⟩]; exact ret_s1 [] rfl) | skip)
      rw [show (insI list c).map D.ints = D.slice (List.map (D.int .i64) c) :: List.map D.ints (List.take (list.length - k) (List.drop k list)) by rw [e1 fun h => h' h.2, hz, hd]; rfl]
      exact ret_s1 [29] rfl
    · refine Ctr.of (n := 34) (rs := [.tmp 4]) Tryz.func63 rfl rfl Tryz.ntmps63 rfl rfl (by kernel_rfl) Tryz.checked.mixed ?_
      simp (disch := first | omega | decide +kernel) only [hz, List.map_nil, el_ints, el_intss, el_steps, wrap_of, Int.toNat_natCast, toNat_pred, Int.toNat_zero, Nat.sub_zero, List.drop_zero, ← List.map_take, ← List.map_drop, go_sem, Nat.reduceEqDiff, Nat.reduceLT, Nat.reduceAdd, Nat.reduceMul, Nat.reduceSub, ↓reduceIte, reduceCtorEq, Nat.reduceLeDiff, Nat.reduceSubDiff, Nat.reduceBEq]
      (repeat' (first | (refine gsel_split (fun h => ?_) (fun h => ?_) <;> (have h' := h) <;> (try simp only [decide_eq_true_eq, decide_eq_false_iff_not, Bool.not_eq_true', Bool.not_eq_false', bne_iff_ne, ne_eq, beq_iff_eq, bne_eq_false_iff_eq, beq_eq_false_iff_ne, Int.ofNat_lt, Int.ofNat_le, Int.not_lt, Int.not_le, Decidable.not_not, Bool.and_eq_true, Bool.or_eq_true, Bool.or_eq_false_iff, gt_iff_lt, ge_iff_le] at h') <;> simp (disch := first | omega | decide +kernel) only [h, el_ints, el_intss, el_steps, wrap_of, Int.toNat_natCast, toNat_pred, Int.toNat_zero, Nat.sub_zero, List.drop_zero, ← List.map_take, ← List.map_drop, D.ints, hz, List.map_nil, go_sem, Nat.reduceEqDiff, Nat.reduceLT, Nat.reduceAdd, Nat.reduceMul, Nat.reduceSub, ↓reduceIte, reduceCtorEq, Nat.reduceLeDiff, Nat.reduceSubDiff, Nat.reduceBEq] <;> clear h) | ((first | refine callX_new (c1) rfl (by decide) ?_ | refine callY_new (c1) rfl ?_ | refine hE _ _ ret_ne ?_ | refine hE _ _ exit_ne ?_) <;> try simp (disch := first | omega | decide +kernel) only [el_ints, el_intss, el_steps, wrap_of, Int.toNat_natCast, toNat_pred, Int.toNat_zero, Nat.sub_zero, List.drop_zero, ← List.map_take, ← List.map_drop, D.ints, hz, List.map_nil, go_sem, Nat.reduceEqDiff, Nat.reduceLT, Nat.reduceAdd, Nat.reduceMul, Nat.reduceSub, ↓reduceIte, reduceCtorEq, Nat.reduceLeDiff, Nat.reduceSubDiff, Nat.reduceBEq]) | (refine hN _ ?_ ?_ (Wk.auto (by simp [extraK, lk, killL, St.kill, wipeO, wipeS, AV.has, AV.hasL, AO.wipe, List.map_set, updSt, insL, dropS, ins]) (by simp [extraK, lk, killL, St.kill, wipeO, wipeS, AV.has, AV.hasL, AO.wipe, List.map_set, updSt, insL, dropS, ins]))) | (with_reducible refine And.intro ?_ ?_) | (with_reducible omega) | (exact ok_ints) | (exact cells_ints) | (exact no_mem) | (with_reducible exact plain_ints) | (refine le_maxLen ?_; omega) | (refine List.forall_mem_cons.2 ⟨?_, ?_⟩) | (simp only [go_sem, List.length_cons, List.length_nil, Nat.reduceAdd, Nat.reduceLT, Nat.zero_lt_succ, and_self, List.mem_cons, List.not_mem_nil, or_false, forall_eq]; done)))
      all_goals (first | exact cells_intss | exact ok_intss | exact ok_ints1 | skip)
      rw [show (insI list c).map D.ints = D.slice (List.map (D.int .i64) c) :: List.map D.ints (List.take (list.length - k) (List.drop k list)) by rw [e1 fun h => h' h.1, hz, hd]; rfl]
      exact ret_s1 [29] rfl
  · obtain ⟨y, r, hyr⟩ : ∃ y r, list.take k = y :: r := by
      cases h : list.take k with
      | nil => have := congrArg List.length h; simp only [List.length_take, List.length_nil] at this; omega
      | cons y r => exact ⟨y, r, rfl⟩
    have hrl : r.length + 1 ≤ list.length := by have := congrArg List.length hyr; simp only [List.length_take, List.length_cons] at this; omega
    by_cases hlt : k < list.length
    · have c2 := l1Same_ok (list.getD k []) c (Nat.le_trans (hx _ (getD_mem (z := ([] : List Int)) hlt)) (by omega))
      refine Ctr.of (n := 34) (rs := [.tmp 4]) Tryz.func63 rfl rfl Tryz.ntmps63 rfl rfl (by kernel_rfl) Tryz.checked.mixed ?_
      simp (disch := first | omega | decide +kernel) only [hyr, List.map_cons, el_ints, el_intss, el_steps, wrap_of, Int.toNat_natCast, toNat_pred, Int.toNat_zero, Nat.sub_zero, List.drop_zero, ← List.map_take, ← List.map_drop, go_sem, Nat.reduceEqDiff, Nat.reduceLT, Nat.reduceAdd, Nat.reduceMul, Nat.reduceSub, ↓reduceIte, reduceCtorEq, Nat.reduceLeDiff, Nat.reduceSubDiff, Nat.reduceBEq]
      (repeat' (first | (refine gsel_split (fun h => ?_) (fun h => ?_) <;> (have h' := h) <;> (try simp only [decide_eq_true_eq, decide_eq_false_iff_not, Bool.not_eq_true', Bool.not_eq_false', bne_iff_ne, ne_eq, beq_iff_eq, bne_eq_false_iff_eq, beq_eq_false_iff_ne, Int.ofNat_lt, Int.ofNat_le, Int.not_lt, Int.not_le, Decidable.not_not, Bool.and_eq_true, Bool.or_eq_true, Bool.or_eq_false_iff, gt_iff_lt, ge_iff_le] at h') <;> simp (disch := first | omega | decide +kernel) only [h, el_ints, el_intss, el_steps, wrap_of, Int.toNat_natCast, toNat_pred, Int.toNat_zero, Nat.sub_zero, List.drop_zero, ← List.map_take, ← List.map_drop, D.ints, hyr, List.map_cons, go_sem, Nat.reduceEqDiff, Nat.reduceLT, Nat.reduceAdd, Nat.reduceMul, Nat.reduceSub, ↓reduceIte, reduceCtorEq, Nat.reduceLeDiff, Nat.reduceSubDiff, Nat.reduceBEq] <;> clear h) | ((first | refine callX_new (c1) rfl (by decide) ?_ | refine callY_new (c1) rfl ?_ | refine callX_new (c2) rfl (by decide) ?_ | refine callY_new (c2) rfl ?_ | refine hE _ _ ret_ne ?_ | refine hE _ _ exit_ne ?_) <;> try simp (disch := first | omega | decide +kernel) only [el_ints, el_intss, el_steps, wrap_of, Int.toNat_natCast, toNat_pred, Int.toNat_zero, Nat.sub_zero, List.drop_zero, ← List.map_take, ← List.map_drop, D.ints, hyr, List.map_cons, go_sem, Nat.reduceEqDiff, Nat.reduceLT, Nat.reduceAdd, Nat.reduceMul, Nat.reduceSub, ↓reduceIte, reduceCtorEq, Nat.reduceLeDiff, Nat.reduceSubDiff, Nat.reduceBEq]) | (refine hN _ ?_ ?_ (Wk.auto (by simp [extraK, lk, killL, St.kill, wipeO, wipeS, AV.has, AV.hasL, AO.wipe, List.map_set, updSt, insL, dropS, ins]) (by simp [extraK, lk, killL, St.kill, wipeO, wipeS, AV.has, AV.hasL, AO.wipe, List.map_set, updSt, insL, dropS, ins]))) | (with_reducible refine And.intro ?_ ?_) | (with_reducible omega) | (exact ok_ints) | (exact cells_ints) | (exact no_mem) | (with_reducible exact plain_ints) | (refine le_maxLen ?_; omega) | (refine List.forall_mem_cons.2 ⟨?_, ?_⟩) | (simp only [go_sem, List.length_cons, List.length_nil, Nat.reduceAdd, Nat.reduceLT, Nat.zero_lt_succ, and_self, List.mem_cons, List.not_mem_nil, or_false, forall_eq]; done)))
      all_goals (first | exact cells_intss | exact ok_intss | exact ok_ints1 | (rw [e2 ⟨hlt, h'⟩]; exact ret_s1 [] rfl) | skip)
      rw [show (insI list c).map D.ints = D.slice (List.map (D.int .i64) y) :: (List.map D.ints r ++ [D.slice (List.map (D.int .i64) c)] ++ List.map D.ints (List.take (list.length - k) (List.drop k list))) by rw [e1 fun h => h' h.2, hyr, hd]; simp [D.ints]]
      exact ret_s1 [26] rfl
    · refine Ctr.of (n := 34) (rs := [.tmp 4]) Tryz.func63 rfl rfl Tryz.ntmps63 rfl rfl (by kernel_rfl) Tryz.checked.mixed ?_
      simp (disch := first | omega | decide +kernel) only [hyr, List.map_cons, el_ints, el_intss, el_steps, wrap_of, Int.toNat_natCast, toNat_pred, Int.toNat_zero, Nat.sub_zero, List.drop_zero, ← List.map_take, ← List.map_drop, go_sem, Nat.reduceEqDiff, Nat.reduceLT, Nat.reduceAdd, Nat.reduceMul, Nat.reduceSub, ↓reduceIte, reduceCtorEq, Nat.reduceLeDiff, Nat.reduceSubDiff, Nat.reduceBEq]
      (repeat' (first | (refine gsel_split (fun h => ?_) (fun h => ?_) <;> (have h' := h) <;> (try simp only [decide_eq_true_eq, decide_eq_false_iff_not, Bool.not_eq_true', Bool.not_eq_false', bne_iff_ne, ne_eq, beq_iff_eq, bne_eq_false_iff_eq, beq_eq_false_iff_ne, Int.ofNat_lt, Int.ofNat_le, Int.not_lt, Int.not_le, Decidable.not_not, Bool.and_eq_true, Bool.or_eq_true, Bool.or_eq_false_iff, gt_iff_lt, ge_iff_le] at h') <;> simp (disch := first | omega | decide +kernel) only [h, el_ints, el_intss, el_steps, wrap_of, Int.toNat_natCast, toNat_pred, Int.toNat_zero, Nat.sub_zero, List.drop_zero, ← List.map_take, ← List.map_drop, D.ints, hyr, List.map_cons, go_sem, Nat.reduceEqDiff, Nat.reduceLT, Nat.reduceAdd, Nat.reduceMul, Nat.reduceSub, ↓reduceIte, reduceCtorEq, Nat.reduceLeDiff, Nat.reduceSubDiff, Nat.reduceBEq] <;> clear h) | ((first | refine callX_new (c1) rfl (by decide) ?_ | refine callY_new (c1) rfl ?_ | refine hE _ _ ret_ne ?_ | refine hE _ _ exit_ne ?_) <;> try simp (disch := first | omega | decide +kernel) only [el_ints, el_intss, el_steps, wrap_of, Int.toNat_natCast, toNat_pred, Int.toNat_zero, Nat.sub_zero, List.drop_zero, ← List.map_take, ← List.map_drop, D.ints, hyr, List.map_cons, go_sem, Nat.reduceEqDiff, Nat.reduceLT, Nat.reduceAdd, Nat.reduceMul, Nat.reduceSub, ↓reduceIte, reduceCtorEq, Nat.reduceLeDiff, Nat.reduceSubDiff, Nat.reduceBEq]) | (refine hN _ ?_ ?_ (Wk.auto (by simp [extraK, lk, killL, St.kill, wipeO, wipeS, AV.has, AV.hasL, AO.wipe, List.map_set, updSt, insL, dropS, ins]) (by simp [extraK, lk, killL, St.kill, wipeO, wipeS, AV.has, AV.hasL, AO.wipe, List.map_set, updSt, insL, dropS, ins]))) | (with_reducible refine And.intro ?_ ?_) | (with_reducible omega) | (exact ok_ints) | (exact cells_ints) | (exact no_mem) | (with_reducible exact plain_ints) | (refine le_maxLen ?_; omega) | (refine List.forall_mem_cons.2 ⟨?_, ?_⟩) | (simp only [go_sem, List.length_cons, List.length_nil, Nat.reduceAdd, Nat.reduceLT, Nat.zero_lt_succ, and_self, List.mem_cons, List.not_mem_nil, or_false, forall_eq]; done)))
      all_goals (first | exact cells_intss | exact ok_intss | exact ok_ints1 | skip)
      rw [show (insI list c).map D.ints = D.slice (List.map (D.int .i64) y) :: (List.map D.ints r ++ [D.slice (List.map (D.int .i64) c)] ++ List.map D.ints (List.take (list.length - k) (List.drop k list))) by rw [e1 fun h => h' h.1, hyr, hd]; simp [D.ints]]
      exact ret_s1 [26] rfl
end Abs.Y

namespace Abs.Y
open Go Go.Proofs Abs
set_option maxRecDepth 100000

theorem in_split {x lo hi : Int} (h : (decide (lo ≤ x) && decide (x ≤ hi)) = false) : ¬ (lo ≤ x ∧ x ≤ hi) := by
  rw [← Bool.decide_and] at h; exact of_decide_eq_false h
theorem in_yes {x lo hi : Int} (h : lo ≤ x ∧ x ≤ hi) : (decide (lo ≤ x) && decide (x ≤ hi)) = true := by
  rw [← Bool.decide_and]; exact decide_eq_true h
theorem in_no {x lo hi : Int} (h : ¬ (lo ≤ x ∧ x ≤ hi)) : (decide (lo ≤ x) && decide (x ≤ hi)) = false := by
  rw [← Bool.decide_and]; exact decide_eq_false h
theorem with_some {now : List (List Int)} {c : List Int} (h : c ∉ now) : withS now (some c) = some (insI now c) := by unfold withS; simp only; rw [if_neg h]
theorem with_none {now : List (List Int)} {c : List Int} (h : c ∈ now) : withS now (some c) = none := by unfold withS; simp only; rw [if_pos h]
theorem stepN_none {v : Int} {cs now : List (List Int)} {s : SStep} (h : nextS v cs now s = none) (h3 : ¬ (s.k = 3 ∧ (0 ≤ s.a ∧ s.a ≤ (now.length : Int) - 1))) : stepN v cs now s = [] := by
  unfold stepN; rw [if_neg (fun h' => h3 h'.2), h]; rfl
theorem stepC_none {v : Int} {cs now : List (List Int)} {s : SStep} (h : nextS v cs now s = none) : stepC v cs now s = [] := by
  unfold stepC; rw [h]; simp
theorem stepC_some {v : Int} {cs now now' : List (List Int)} {s : SStep} {c : List Int} (h : nextS v cs now s = some now') (h3 : ¬ s.k = 3) (hp : pickS v cs now s = some c) : stepC v cs now s = c := by
  unfold stepC; rw [h, hp]; simp [h3]
/-- What the reference's step hands back. -/
def stepR (v : Int) (cs now : List (List Int)) (s : SStep) : AV := .tup [.d (.slice ((stepN v cs now s).map D.ints)), .d (D.ints (stepC v cs now s)), .d (.bool (nextS v cs now s).isSome)]
section
variable (v : Int) (cs now : List (List Int)) (s : SStep) (n : Nat) (hcs : ∀ c ∈ cs, Good c) (hcl : cs.length ≤ 1048576) (hn : Cfg now n) (hnn : n ≤ 1000000)
include hcs hcl hn hnn
set_option maxHeartbeats 8000000 in
theorem l15_axiom (h1 : s.k = 1) : Ctr Tryz.prog 61 [.agg [.int .i64 v, .slice (cs.map D.ints)], .slice (now.map D.ints), D.sst s] true (stepR v cs now s) [] := by
  have hlen := hn.len
  have e0 : nextS v cs now s = withS now (pickS v cs now s) := by unfold nextS; rw [if_neg (by omega)]
  by_cases hok : (0 ≤ s.a ∧ s.a ≤ (cs.length : Int) - 1) ∧ s.b = 0 ∧ s.p = 0
  · have hp : pickS v cs now s = some (cs.getD s.a.toNat []) := by unfold pickS; rw [if_pos h1, if_pos hok]
    have c1 := l1In_ok s.a 0 ((cs.length : Int) - 1)
    rw [in_yes hok.1] at c1
    have hgc : Good (cs.getD s.a.toNat []) := hcs _ (getD_mem (by omega))
    have hcl2 := good_len hgc
    have c2 := l2At_ok now (cs.getD s.a.toNat []) (by omega) (by omega) (good_sm hgc) (fun x hx => by have := good_len (hn.ok x hx); omega) hn.srt
    have c3 := l2Insert_ok now (cs.getD s.a.toNat []) (by omega) (by omega) (good_sm hgc) (fun x hx => by have := good_len (hn.ok x hx); omega) hn.srt
    have hmem := atI_mem hn.srt (good_sm hgc)
    rw [hp] at e0
    by_cases hm : cs.getD s.a.toNat [] ∈ now
    · rw [with_none hm] at e0
      rw [decide_eq_true hm, decide_eq_true_eq] at hmem
      unfold stepR
      rw [stepN_none e0 (by omega), stepC_none e0, e0]
      refine Ctr.ofK (n := 146) (rs := [.tmp 6, .tmp 7, .tmp 8]) Tryz.func61 rfl rfl Tryz.ntmps61 rfl rfl (by kernel_rfl) Tryz.checked.mixed ?_; refine Awp.cut ?_
      simp (disch := first | omega | decide +kernel) only [D.sst, el_ints, el_intss, el_steps, wrap_of, Int.toNat_natCast, toNat_pred, Int.toNat_zero, Nat.sub_zero, List.drop_zero, ← List.map_take, ← List.map_drop, go_sem, Nat.reduceEqDiff, Nat.reduceLT, Nat.reduceAdd, Nat.reduceMul, Nat.reduceSub, ↓reduceIte, reduceCtorEq, Nat.reduceLeDiff, Nat.reduceSubDiff, Nat.reduceBEq]
      refine ⟨_, (Wk.bfz 3 (.agg [.int .i64 v, .slice (cs.map D.ints)]) rfl rfl).trans (Wk.bfz 5 (D.sst s) rfl rfl), ?_⟩
      simp (disch := first | omega | decide +kernel) only [bfzS, bfzO, AV.bfz, AV.bfzL, AO.bfz, D.sst, el_ints, el_intss, el_steps, wrap_of, Int.toNat_natCast, toNat_pred, Int.toNat_zero, Nat.sub_zero, List.drop_zero, ← List.map_take, ← List.map_drop, go_sem, Nat.reduceEqDiff, Nat.reduceLT, Nat.reduceAdd, Nat.reduceMul, Nat.reduceSub, ↓reduceIte, reduceCtorEq, Nat.reduceLeDiff, Nat.reduceSubDiff, Nat.reduceBEq]
      (repeat' (first | (refine gsel_split (fun h => ?_) (fun h => ?_) <;> (have h' := h) <;> (try simp only [decide_eq_true_eq, decide_eq_false_iff_not, Bool.not_eq_true', Bool.not_eq_false', bne_iff_ne, ne_eq, beq_iff_eq, bne_eq_false_iff_eq, beq_eq_false_iff_ne, Int.ofNat_lt, Int.ofNat_le, Int.not_lt, Int.not_le, Decidable.not_not, Bool.and_eq_true, Bool.or_eq_true, Bool.or_eq_false_iff, gt_iff_lt, ge_iff_le] at h') <;> simp (disch := first | omega | decide +kernel) only [h, el_ints, el_intss, el_steps, wrap_of, Int.toNat_natCast, toNat_pred, Int.toNat_zero, Nat.sub_zero, List.drop_zero, ← List.map_take, ← List.map_drop, D.sst, D.ints, go_sem, Nat.reduceEqDiff, Nat.reduceLT, Nat.reduceAdd, Nat.reduceMul, Nat.reduceSub, ↓reduceIte, reduceCtorEq, Nat.reduceLeDiff, Nat.reduceSubDiff, Nat.reduceBEq] <;> clear h) | ((first | refine callX_new (c1) rfl (by decide) ?_ | refine callY_new (c1) rfl ?_ | refine callX_new (c2) rfl (by decide) ?_ | refine callY_new (c2) rfl ?_ | refine hE _ _ ret_ne ?_ | refine hE _ _ exit_ne ?_) <;> try simp (disch := first | omega | decide +kernel) only [el_ints, el_intss, el_steps, wrap_of, Int.toNat_natCast, toNat_pred, Int.toNat_zero, Nat.sub_zero, List.drop_zero, ← List.map_take, ← List.map_drop, D.sst, D.ints, go_sem, Nat.reduceEqDiff, Nat.reduceLT, Nat.reduceAdd, Nat.reduceMul, Nat.reduceSub, ↓reduceIte, reduceCtorEq, Nat.reduceLeDiff, Nat.reduceSubDiff, Nat.reduceBEq]) | (refine hN _ ?_ ?_ (Wk.auto (by simp [extraK, lk, killL, St.kill, wipeO, wipeS, AV.has, AV.hasL, AO.wipe, List.map_set, updSt, insL, dropS, ins]) (by simp [extraK, lk, killL, St.kill, wipeO, wipeS, AV.has, AV.hasL, AO.wipe, List.map_set, updSt, insL, dropS, ins]))) | (with_reducible refine And.intro ?_ ?_) | (with_reducible omega) | (exact ok_ints) | (exact cells_ints) | (exact no_mem) | (with_reducible exact plain_ints) | (refine le_maxLen ?_; omega) | (refine List.forall_mem_cons.2 ⟨?_, ?_⟩) | (simp only [go_sem, List.length_cons, List.length_nil, Nat.reduceAdd, Nat.reduceLT, Nat.zero_lt_succ, and_self, List.mem_cons, List.not_mem_nil, or_false, forall_eq]; done)))
      all_goals (first | omega | exact ret_s3 [] rfl rfl rfl | exact ret_s3 [44, 45] rfl rfl rfl | exact ret_s3 [67, 68] rfl rfl rfl | exact ret_s3 [114, 115] rfl rfl rfl | exact ret_s3 [140, 141] rfl rfl rfl | trace_state)
    · rw [with_some hm] at e0
      rw [decide_eq_false hm, decide_eq_false_iff_not] at hmem
      unfold stepR
      rw [stepN_some e0, stepC_some e0 (by omega) hp, e0]
      refine Ctr.ofK (n := 146) (rs := [.tmp 6, .tmp 7, .tmp 8]) Tryz.func61 rfl rfl Tryz.ntmps61 rfl rfl (by kernel_rfl) Tryz.checked.mixed ?_; refine Awp.cut ?_
      simp (disch := first | omega | decide +kernel) only [D.sst, el_ints, el_intss, el_steps, wrap_of, Int.toNat_natCast, toNat_pred, Int.toNat_zero, Nat.sub_zero, List.drop_zero, ← List.map_take, ← List.map_drop, go_sem, Nat.reduceEqDiff, Nat.reduceLT, Nat.reduceAdd, Nat.reduceMul, Nat.reduceSub, ↓reduceIte, reduceCtorEq, Nat.reduceLeDiff, Nat.reduceSubDiff, Nat.reduceBEq]
      refine ⟨_, (Wk.bfz 3 (.agg [.int .i64 v, .slice (cs.map D.ints)]) rfl rfl).trans (Wk.bfz 5 (D.sst s) rfl rfl), ?_⟩
      simp (disch := first | omega | decide +kernel) only [bfzS, bfzO, AV.bfz, AV.bfzL, AO.bfz, D.sst, el_ints, el_intss, el_steps, wrap_of, Int.toNat_natCast, toNat_pred, Int.toNat_zero, Nat.sub_zero, List.drop_zero, ← List.map_take, ← List.map_drop, go_sem, Nat.reduceEqDiff, Nat.reduceLT, Nat.reduceAdd, Nat.reduceMul, Nat.reduceSub, ↓reduceIte, reduceCtorEq, Nat.reduceLeDiff, Nat.reduceSubDiff, Nat.reduceBEq]
      (repeat' (first | (refine gsel_split (fun h => ?_) (fun h => ?_) <;> (have h' := h) <;> (try simp only [decide_eq_true_eq, decide_eq_false_iff_not, Bool.not_eq_true', Bool.not_eq_false', bne_iff_ne, ne_eq, beq_iff_eq, bne_eq_false_iff_eq, beq_eq_false_iff_ne, Int.ofNat_lt, Int.ofNat_le, Int.not_lt, Int.not_le, Decidable.not_not, Bool.and_eq_true, Bool.or_eq_true, Bool.or_eq_false_iff, gt_iff_lt, ge_iff_le] at h') <;> simp (disch := first | omega | decide +kernel) only [h, el_ints, el_intss, el_steps, wrap_of, Int.toNat_natCast, toNat_pred, Int.toNat_zero, Nat.sub_zero, List.drop_zero, ← List.map_take, ← List.map_drop, D.sst, D.ints, go_sem, Nat.reduceEqDiff, Nat.reduceLT, Nat.reduceAdd, Nat.reduceMul, Nat.reduceSub, ↓reduceIte, reduceCtorEq, Nat.reduceLeDiff, Nat.reduceSubDiff, Nat.reduceBEq] <;> clear h) | ((first | refine callX_new (c1) rfl (by decide) ?_ | refine callY_new (c1) rfl ?_ | refine callX_new (c2) rfl (by decide) ?_ | refine callY_new (c2) rfl ?_ | refine callX_shared (c3) rfl (by decide) ?_ | refine callY_shared (c3) rfl ?_ | refine hE _ _ ret_ne ?_ | refine hE _ _ exit_ne ?_) <;> try simp (disch := first | omega | decide +kernel) only [el_ints, el_intss, el_steps, wrap_of, Int.toNat_natCast, toNat_pred, Int.toNat_zero, Nat.sub_zero, List.drop_zero, ← List.map_take, ← List.map_drop, D.sst, D.ints, go_sem, Nat.reduceEqDiff, Nat.reduceLT, Nat.reduceAdd, Nat.reduceMul, Nat.reduceSub, ↓reduceIte, reduceCtorEq, Nat.reduceLeDiff, Nat.reduceSubDiff, Nat.reduceBEq]) | (refine hN _ ?_ ?_ (Wk.auto (by simp [extraK, lk, killL, St.kill, wipeO, wipeS, AV.has, AV.hasL, AO.wipe, List.map_set, updSt, insL, dropS, ins]) (by simp [extraK, lk, killL, St.kill, wipeO, wipeS, AV.has, AV.hasL, AO.wipe, List.map_set, updSt, insL, dropS, ins]))) | (with_reducible refine And.intro ?_ ?_) | (with_reducible omega) | (exact ok_ints) | (exact cells_ints) | (exact no_mem) | (with_reducible exact plain_ints) | (refine le_maxLen ?_; omega) | (refine List.forall_mem_cons.2 ⟨?_, ?_⟩) | (simp only [go_sem, List.length_cons, List.length_nil, Nat.reduceAdd, Nat.reduceLT, Nat.zero_lt_succ, and_self, List.mem_cons, List.not_mem_nil, or_false, forall_eq]; done)))
      all_goals (first | omega | exact ret_s3 [] rfl rfl rfl | exact ret_s3 [44, 45] rfl rfl rfl | exact ret_s3 [67, 68] rfl rfl rfl | exact ret_s3 [114, 115] rfl rfl rfl | exact ret_s3 [140, 141] rfl rfl rfl | trace_state)
  · have hp : pickS v cs now s = none := by unfold pickS; rw [if_pos h1, if_neg hok]
    have c1 := l1In_ok s.a 0 ((cs.length : Int) - 1)
    rw [hp] at e0
    have e0' : nextS v cs now s = none := e0
    unfold stepR
    rw [stepN_none e0' (by omega), stepC_none e0', e0']
    refine Ctr.ofK (n := 146) (rs := [.tmp 6, .tmp 7, .tmp 8]) Tryz.func61 rfl rfl Tryz.ntmps61 rfl rfl (by kernel_rfl) Tryz.checked.mixed ?_; refine Awp.cut ?_
    simp (disch := first | omega | decide +kernel) only [D.sst, el_ints, el_intss, el_steps, wrap_of, Int.toNat_natCast, toNat_pred, Int.toNat_zero, Nat.sub_zero, List.drop_zero, ← List.map_take, ← List.map_drop, go_sem, Nat.reduceEqDiff, Nat.reduceLT, Nat.reduceAdd, Nat.reduceMul, Nat.reduceSub, ↓reduceIte, reduceCtorEq, Nat.reduceLeDiff, Nat.reduceSubDiff, Nat.reduceBEq]
    refine ⟨_, (Wk.bfz 3 (.agg [.int .i64 v, .slice (cs.map D.ints)]) rfl rfl).trans (Wk.bfz 5 (D.sst s) rfl rfl), ?_⟩
    simp (disch := first | omega | decide +kernel) only [bfzS, bfzO, AV.bfz, AV.bfzL, AO.bfz, D.sst, el_ints, el_intss, el_steps, wrap_of, Int.toNat_natCast, toNat_pred, Int.toNat_zero, Nat.sub_zero, List.drop_zero, ← List.map_take, ← List.map_drop, go_sem, Nat.reduceEqDiff, Nat.reduceLT, Nat.reduceAdd, Nat.reduceMul, Nat.reduceSub, ↓reduceIte, reduceCtorEq, Nat.reduceLeDiff, Nat.reduceSubDiff, Nat.reduceBEq]
    (repeat' (first | (refine gsel_split (fun h => ?_) (fun h => ?_) <;> (have h' := h) <;> (try simp only [decide_eq_true_eq, decide_eq_false_iff_not, Bool.not_eq_true', Bool.not_eq_false', bne_iff_ne, ne_eq, beq_iff_eq, bne_eq_false_iff_eq, beq_eq_false_iff_ne, Int.ofNat_lt, Int.ofNat_le, Int.not_lt, Int.not_le, Decidable.not_not, Bool.and_eq_true, Bool.or_eq_true, Bool.or_eq_false_iff, gt_iff_lt, ge_iff_le] at h') <;> simp (disch := first | omega | decide +kernel) only [h, el_ints, el_intss, el_steps, wrap_of, Int.toNat_natCast, toNat_pred, Int.toNat_zero, Nat.sub_zero, List.drop_zero, ← List.map_take, ← List.map_drop, D.sst, D.ints, go_sem, Nat.reduceEqDiff, Nat.reduceLT, Nat.reduceAdd, Nat.reduceMul, Nat.reduceSub, ↓reduceIte, reduceCtorEq, Nat.reduceLeDiff, Nat.reduceSubDiff, Nat.reduceBEq] <;> clear h) | ((first | refine callX_new (c1) rfl (by decide) ?_ | refine callY_new (c1) rfl ?_ | refine hE _ _ ret_ne ?_ | refine hE _ _ exit_ne ?_) <;> try simp (disch := first | omega | decide +kernel) only [el_ints, el_intss, el_steps, wrap_of, Int.toNat_natCast, toNat_pred, Int.toNat_zero, Nat.sub_zero, List.drop_zero, ← List.map_take, ← List.map_drop, D.sst, D.ints, go_sem, Nat.reduceEqDiff, Nat.reduceLT, Nat.reduceAdd, Nat.reduceMul, Nat.reduceSub, ↓reduceIte, reduceCtorEq, Nat.reduceLeDiff, Nat.reduceSubDiff, Nat.reduceBEq]) | (refine hN _ ?_ ?_ (Wk.auto (by simp [extraK, lk, killL, St.kill, wipeO, wipeS, AV.has, AV.hasL, AO.wipe, List.map_set, updSt, insL, dropS, ins]) (by simp [extraK, lk, killL, St.kill, wipeO, wipeS, AV.has, AV.hasL, AO.wipe, List.map_set, updSt, insL, dropS, ins]))) | (with_reducible refine And.intro ?_ ?_) | (with_reducible omega) | (exact ok_ints) | (exact cells_ints) | (exact no_mem) | (with_reducible exact plain_ints) | (refine le_maxLen ?_; omega) | (refine List.forall_mem_cons.2 ⟨?_, ?_⟩) | (simp only [go_sem, List.length_cons, List.length_nil, Nat.reduceAdd, Nat.reduceLT, Nat.zero_lt_succ, and_self, List.mem_cons, List.not_mem_nil, or_false, forall_eq]; done)))
    all_goals (try simp only [Bool.and_eq_false_iff, decide_eq_false_iff_not] at *)
    all_goals (first | omega | exact ret_s3 [] rfl rfl rfl | exact ret_s3 [44, 45] rfl rfl rfl | exact ret_s3 [67, 68] rfl rfl rfl | exact ret_s3 [114, 115] rfl rfl rfl | exact ret_s3 [140, 141] rfl rfl rfl | trace_state)
end
end Abs.Y

namespace Abs.Y
open Go Go.Proofs Abs
set_option maxRecDepth 100000

section
variable (v : Int) (cs now : List (List Int)) (s : SStep) (n : Nat) (hcs : ∀ c ∈ cs, Good c) (hcl : cs.length ≤ 1048576) (hn : Cfg now n) (hnn : n ≤ 1000000)
include hcs hcl hn hnn
set_option maxHeartbeats 8000000 in
theorem l15_out (h1 : ¬ s.k = 1) (ha : ¬ (0 ≤ s.a ∧ s.a ≤ (now.length : Int) - 1)) : Ctr Tryz.prog 61 [.agg [.int .i64 v, .slice (cs.map D.ints)], .slice (now.map D.ints), D.sst s] true (stepR v cs now s) [] := by
  have hlen := hn.len
  have hp : pickS v cs now s = none := by unfold pickS; rw [if_neg h1, if_neg fun h => ha h.2.1]
  have e0 : nextS v cs now s = none := by
    unfold nextS
    split
    · rw [if_neg fun h => ha h.1]
    · rw [hp]; rfl
  have c1 := l1In_ok s.a 0 ((now.length : Int) - 1)
  rw [in_no ha] at c1
  unfold stepR
  rw [stepN_none e0 (fun h => ha h.2), stepC_none e0, e0]
  refine Ctr.ofK (n := 146) (rs := [.tmp 6, .tmp 7, .tmp 8]) Tryz.func61 rfl rfl Tryz.ntmps61 rfl rfl (by kernel_rfl) Tryz.checked.mixed ?_; refine Awp.cut ?_
  simp (disch := first | omega | decide +kernel) only [D.sst, el_ints, el_intss, el_steps, wrap_of, Int.toNat_natCast, toNat_pred, Int.toNat_zero, Nat.sub_zero, List.drop_zero, ← List.map_take, ← List.map_drop, go_sem, Nat.reduceEqDiff, Nat.reduceLT, Nat.reduceAdd, Nat.reduceMul, Nat.reduceSub, ↓reduceIte, reduceCtorEq, Nat.reduceLeDiff, Nat.reduceSubDiff, Nat.reduceBEq]
  refine ⟨_, (Wk.bfz 3 (.agg [.int .i64 v, .slice (cs.map D.ints)]) rfl rfl).trans (Wk.bfz 5 (D.sst s) rfl rfl), ?_⟩
  simp (disch := first | omega | decide +kernel) only [bfzS, bfzO, AV.bfz, AV.bfzL, AO.bfz, D.sst, el_ints, el_intss, el_steps, wrap_of, Int.toNat_natCast, toNat_pred, Int.toNat_zero, Nat.sub_zero, List.drop_zero, ← List.map_take, ← List.map_drop, go_sem, Nat.reduceEqDiff, Nat.reduceLT, Nat.reduceAdd, Nat.reduceMul, Nat.reduceSub, ↓reduceIte, reduceCtorEq, Nat.reduceLeDiff, Nat.reduceSubDiff, Nat.reduceBEq]
  (repeat' (first | (refine gsel_split (fun h => ?_) (fun h => ?_) <;> (have h' := h) <;> (try simp only [decide_eq_true_eq, decide_eq_false_iff_not, Bool.not_eq_true', Bool.not_eq_false', bne_iff_ne, ne_eq, beq_iff_eq, bne_eq_false_iff_eq, beq_eq_false_iff_ne, Int.ofNat_lt, Int.ofNat_le, Int.not_lt, Int.not_le, Decidable.not_not, Bool.and_eq_true, Bool.or_eq_true, Bool.or_eq_false_iff, gt_iff_lt, ge_iff_le] at h') <;> simp (disch := first | omega | decide +kernel) only [h, el_ints, el_intss, el_steps, wrap_of, Int.toNat_natCast, toNat_pred, Int.toNat_zero, Nat.sub_zero, List.drop_zero, ← List.map_take, ← List.map_drop, D.sst, D.ints, go_sem, Nat.reduceEqDiff, Nat.reduceLT, Nat.reduceAdd, Nat.reduceMul, Nat.reduceSub, ↓reduceIte, reduceCtorEq, Nat.reduceLeDiff, Nat.reduceSubDiff, Nat.reduceBEq] <;> clear h) | ((first | refine callX_new (c1) rfl (by decide) ?_ | refine callY_new (c1) rfl ?_ | refine hE _ _ ret_ne ?_ | refine hE _ _ exit_ne ?_) <;> try simp (disch := first | omega | decide +kernel) only [el_ints, el_intss, el_steps, wrap_of, Int.toNat_natCast, toNat_pred, Int.toNat_zero, Nat.sub_zero, List.drop_zero, ← List.map_take, ← List.map_drop, D.sst, D.ints, go_sem, Nat.reduceEqDiff, Nat.reduceLT, Nat.reduceAdd, Nat.reduceMul, Nat.reduceSub, ↓reduceIte, reduceCtorEq, Nat.reduceLeDiff, Nat.reduceSubDiff, Nat.reduceBEq]) | (refine hN _ ?_ ?_ (Wk.auto (by simp [extraK, lk, killL, St.kill, wipeO, wipeS, AV.has, AV.hasL, AO.wipe, List.map_set, updSt, insL, dropS, ins]) (by simp [extraK, lk, killL, St.kill, wipeO, wipeS, AV.has, AV.hasL, AO.wipe, List.map_set, updSt, insL, dropS, ins]))) | (with_reducible refine And.intro ?_ ?_) | (with_reducible omega) | (exact ok_ints) | (exact cells_ints) | (exact no_mem) | (with_reducible exact plain_ints) | (refine le_maxLen ?_; omega) | (refine List.forall_mem_cons.2 ⟨?_, ?_⟩) | (simp only [go_sem, List.length_cons, List.length_nil, Nat.reduceAdd, Nat.reduceLT, Nat.zero_lt_succ, and_self, List.mem_cons, List.not_mem_nil, or_false, forall_eq]; done)))
  all_goals (first | omega | exact ret_s3 [] rfl rfl rfl | exact ret_s3 [44, 45] rfl rfl rfl | exact ret_s3 [67, 68] rfl rfl rfl | exact ret_s3 [114, 115] rfl rfl rfl | exact ret_s3 [140, 141] rfl rfl rfl | trace_state)
end
end Abs.Y
