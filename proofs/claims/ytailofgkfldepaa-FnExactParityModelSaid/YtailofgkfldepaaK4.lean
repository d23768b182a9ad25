/- What functions of this program compute, as contracts over plain data, with what the proofs need of them. No condition. -/
import Derived.Test.YtailofgkfldepaaK3
set_option linter.all false
namespace Abs.Y
open Go Go.Proofs Abs
set_option maxRecDepth 100000

/-! ### A vertex's part in a line -/
/-- The other end of an edge. -/
def other (g : Chg) (now k : Int) : Int := (g.ed.getD k.toNat (0, 0)).1 + (g.ed.getD k.toNat (0, 0)).2 - now
def hasV (out : List (Int × Int)) (x : Int) : Bool := out.any fun r => decide (r.1 = x)
def grow1 (g : Chg) (now : Int) (out : List (Int × Int)) (k : Int) : List (Int × Int) := if hasV out (other g now k) = true then out else out ++ [(other g now k, k)]
def growL (g : Chg) (now : Int) (ks : List Int) (out : List (Int × Int)) : List (Int × Int) := ks.foldl (grow1 g now) out
def stepL (g : Chg) (out : List (Int × Int)) (i : Nat) : List (Int × Int) := growL g (out.getD i (0, 0)).1 (edgesAt g (out.getD i (0, 0)).1) out
def lineF (g : Chg) : Nat → Nat → List (Int × Int) → List (Int × Int)
  | 0, _, out => out
  | f + 1, i, out => if i < out.length then lineF g f (i + 1) (stepL g out i) else out
def lineI (g : Chg) (v : Int) : List (Int × Int) := lineF g 9 0 [(v, -1)]
/-- What a line is while it grows. -/
structure LinOk (g : Chg) (out : List (Int × Int)) : Prop where
  nd : (out.map (·.1)).Nodup
  vx : ∀ r ∈ out, 0 ≤ r.1 ∧ r.1 < g.n
  ed : ∀ r ∈ out, r.2 = -1 ∨ (0 ≤ r.2 ∧ r.2.toNat < g.ed.length)
  n8 : g.n ≤ 8
theorem hasV_mem {out : List (Int × Int)} {x : Int} : hasV out x = true ↔ x ∈ out.map (·.1) := by
  simp [hasV, List.any_eq_true]
theorem LinOk.len {g : Chg} {out : List (Int × Int)} (h : LinOk g out) : out.length ≤ 8 := by
  have h1 : (out.map (·.1)) ⊆ (List.range 8).map fun (i : Nat) => (i : Int) := fun x hx => by
    obtain ⟨r, hr, rfl⟩ := List.mem_map.1 hx
    have h2 := h.vx r hr
    have h3 := h.n8
    exact List.mem_map.2 ⟨r.1.toNat, List.mem_range.2 (by omega), by omega⟩
  have := h.nd.length_le_of_subset h1
  simpa using this
theorem other_ok {g : Chg} (hg : goodC g = true) {now k : Int} (hk : k ∈ edgesAt g now) : 0 ≤ other g now k ∧ other g now k < g.n := by
  obtain ⟨h1, h2, h3⟩ := mem_edges hk
  have h4 := (goodC_spec hg).2.1 _ h2
  simp only [edOk, decide_eq_true_eq] at h4
  unfold other
  rcases h3 with h3 | h3 <;> omega
theorem grow1_ok {g : Chg} (hg : goodC g = true) {now k : Int} (hk : k ∈ edgesAt g now) {out : List (Int × Int)} (h : LinOk g out) : LinOk g (grow1 g now out k) := by
  unfold grow1
  split
  · exact h
  · rename_i hn
    have ho := other_ok hg hk
    have hm := mem_edges hk
    rw [hasV_mem] at hn
    refine ⟨?_, fun r hr => ?_, fun r hr => ?_, h.n8⟩
    · rw [List.map_append, List.nodup_append]
      refine ⟨h.nd, by simp, fun a ha b hb e => ?_⟩
      simp only [List.map_cons, List.map_nil, List.mem_singleton] at hb
      subst hb; subst e
      exact hn ha
    · rcases List.mem_append.1 hr with hr | hr
      · exact h.vx r hr
      · rw [List.mem_singleton.1 hr]; exact ho
    · rcases List.mem_append.1 hr with hr | hr
      · exact h.ed r hr
      · rw [List.mem_singleton.1 hr]; exact .inr ⟨hm.1, hm.2.1⟩
theorem growL_ok {g : Chg} (hg : goodC g = true) {now : Int} : ∀ {ks : List Int} {out : List (Int × Int)}, (∀ k ∈ ks, k ∈ edgesAt g now) → LinOk g out → LinOk g (growL g now ks out)
  | [], out, _, h => h
  | k :: r, out, hk, h => growL_ok (ks := r) hg (fun k' h' => hk k' (by simp [h'])) (grow1_ok hg (hk k (by simp)) h)
theorem grow1_pre {g : Chg} {now k : Int} {out : List (Int × Int)} : out <+: grow1 g now out k := by
  unfold grow1; split
  · exact List.prefix_rfl
  · exact List.prefix_append _ _
theorem growL_pre {g : Chg} {now : Int} : ∀ {ks : List Int} {out : List (Int × Int)}, out <+: growL g now ks out
  | [], out => List.prefix_rfl
  | k :: r, out => grow1_pre.trans (growL_pre (ks := r))
theorem lin_start {g : Chg} (hg : goodC g = true) {v : Int} (hv : 0 ≤ v ∧ v < g.n) : LinOk g [(v, -1)] :=
  ⟨by simp, fun r hr => by rw [List.mem_singleton.1 hr]; exact hv, fun r hr => by rw [List.mem_singleton.1 hr]; exact .inl rfl, (goodC_spec hg).1.1.2⟩
theorem line1_ok (r : Int × Int) (x : Int) : Ctr Try.prog 148 [D.ed r, .ptr (.int .i64 x)] false (.d (.bool (decide (r.1 = x)))) [] := by
  refine Ctr.of (n := 8) (rs := [.tmp 3]) Try.func148 rfl rfl Try.ntmps148 rfl rfl (by kernel_rfl) Try.checked.mixed ?_
  simp (disch := first | omega | decide +kernel) only [D.ed, el_ints, el_intss, el_steps, wrap_of, Int.toNat_natCast, toNat_pred, Int.toNat_zero, Nat.sub_zero, List.drop_zero, ← List.map_take, ← List.map_drop, go_sem, Nat.reduceEqDiff, Nat.reduceLT, Nat.reduceAdd, Nat.reduceMul, Nat.reduceSub, ↓reduceIte, reduceCtorEq, Nat.reduceLeDiff, Nat.reduceSubDiff, Nat.reduceBEq]
  (repeat' (first | (refine gsel_split (fun h => ?_) (fun h => ?_) <;> (have h' := h) <;> (try simp only [decide_eq_true_eq, decide_eq_false_iff_not, Bool.not_eq_true', Bool.not_eq_false', bne_iff_ne, ne_eq, beq_iff_eq, bne_eq_false_iff_eq, beq_eq_false_iff_ne, Int.ofNat_lt, Int.ofNat_le, Int.not_lt, Int.not_le, Decidable.not_not, Bool.and_eq_true, Bool.or_eq_true, Bool.or_eq_false_iff, gt_iff_lt, ge_iff_le] at h') <;> simp (disch := first | omega | decide +kernel) only [h, el_ints, el_intss, el_steps, wrap_of, Int.toNat_natCast, toNat_pred, Int.toNat_zero, Nat.sub_zero, List.drop_zero, ← List.map_take, ← List.map_drop, go_sem, Nat.reduceEqDiff, Nat.reduceLT, Nat.reduceAdd, Nat.reduceMul, Nat.reduceSub, ↓reduceIte, reduceCtorEq, Nat.reduceLeDiff, Nat.reduceSubDiff, Nat.reduceBEq] <;> clear h) | ((first | refine hE _ _ ret_ne ?_ | refine hE _ _ exit_ne ?_) <;> try simp (disch := first | omega | decide +kernel) only [el_ints, el_intss, el_steps, wrap_of, Int.toNat_natCast, toNat_pred, Int.toNat_zero, Nat.sub_zero, List.drop_zero, ← List.map_take, ← List.map_drop, go_sem, Nat.reduceEqDiff, Nat.reduceLT, Nat.reduceAdd, Nat.reduceMul, Nat.reduceSub, ↓reduceIte, reduceCtorEq, Nat.reduceLeDiff, Nat.reduceSubDiff, Nat.reduceBEq]) | (refine hN _ ?_ ?_ (Wk.auto (by simp [extraK, lk, killL, St.kill, wipeO, wipeS, AV.has, AV.hasL, AO.wipe, List.map_set, updSt, insL, dropS, ins]) (by simp [extraK, lk, killL, St.kill, wipeO, wipeS, AV.has, AV.hasL, AO.wipe, List.map_set, updSt, insL, dropS, ins]))) | (with_reducible refine And.intro ?_ ?_) | (with_reducible omega) | (exact ok_ints) | (exact cells_ints) | (exact no_mem) | (with_reducible exact plain_ints) | (refine le_maxLen ?_; omega) | (refine List.forall_mem_cons.2 ⟨?_, ?_⟩) | (simp only [go_sem, List.length_cons, List.length_nil, Nat.reduceAdd, Nat.reduceLT, Nat.zero_lt_succ, and_self, List.mem_cons, List.not_mem_nil, or_false, forall_eq]; done)))
  congr 1
theorem indexFuncR_ok (l : List (Int × Int)) (x : Int) (hl : l.length ≤ 1048576) :
    Ctr Try.prog 194 [.slice (l.map D.ed), .fn (.func 148) [] [.ptr (.int .i64 x)]] false (.d (.int .i64 (idxR (fun j => decide ((l.getD j (0, 0)).1 = x)) l.length))) [] := by
  refine Ctr.of (n := 19) (rs := [.tmp 4]) Try.func194 rfl rfl Try.ntmps194 rfl rfl (by kernel_rfl) Try.checked.mixed ?_
  simp (disch := first | omega | decide +kernel) only [el_ints, el_intss, el_steps, wrap_of, Int.toNat_natCast, toNat_pred, Int.toNat_zero, Nat.sub_zero, List.drop_zero, ← List.map_take, ← List.map_drop, go_sem, Nat.reduceEqDiff, Nat.reduceLT, Nat.reduceAdd, Nat.reduceMul, Nat.reduceSub, ↓reduceIte, reduceCtorEq, Nat.reduceLeDiff, Nat.reduceSubDiff, Nat.reduceBEq]
  refine Ok.loopC [18, 17, 16, 15, 14, 13, 12, 11, 10, 9, 8, 6, 5, 4, 3, 2] (fun i => [(8, .d (.int .i64 (i : Nat)))]) l.length (fun i => ∀ j, j < i → decide ((l.getD j (0, 0)).1 = x) = false) (by simp) (Wk.auto (by simp [extraK, lk, killL, St.kill, wipeO, wipeS, AV.has, AV.hasL, AO.wipe, List.map_set, updSt, insL, dropS, ins]) (by simp [extraK, lk, killL, St.kill, wipeO, wipeS, AV.has, AV.hasL, AO.wipe, List.map_set, updSt, insL, dropS, ins])) ?_
  intro R i hN hE hi hI
  by_cases hlt : i < l.length
  · have hpi := line1_ok (l.getD i (0, 0)) x
    generalize hsd : l.getD i (0, 0) = s at *
    simp (disch := first | omega | decide +kernel) only [el_eds, hsd, el_ints, el_intss, el_steps, wrap_of, Int.toNat_natCast, toNat_pred, Int.toNat_zero, Nat.sub_zero, List.drop_zero, ← List.map_take, ← List.map_drop, go_sem, Nat.reduceEqDiff, Nat.reduceLT, Nat.reduceAdd, Nat.reduceMul, Nat.reduceSub, ↓reduceIte, reduceCtorEq, Nat.reduceLeDiff, Nat.reduceSubDiff, Nat.reduceBEq]
    (repeat' (first | (refine gsel_split (fun h => ?_) (fun h => ?_) <;> (have h' := h) <;> (try simp only [decide_eq_true_eq, decide_eq_false_iff_not, Bool.not_eq_true', Bool.not_eq_false', bne_iff_ne, ne_eq, beq_iff_eq, bne_eq_false_iff_eq, beq_eq_false_iff_ne, Int.ofNat_lt, Int.ofNat_le, Int.not_lt, Int.not_le, Decidable.not_not, Bool.and_eq_true, Bool.or_eq_true, Bool.or_eq_false_iff, gt_iff_lt, ge_iff_le] at h') <;> simp (disch := first | omega | decide +kernel) only [h, el_ints, el_intss, el_steps, wrap_of, Int.toNat_natCast, toNat_pred, Int.toNat_zero, Nat.sub_zero, List.drop_zero, ← List.map_take, ← List.map_drop, el_eds, hsd, D.ed, go_sem, Nat.reduceEqDiff, Nat.reduceLT, Nat.reduceAdd, Nat.reduceMul, Nat.reduceSub, ↓reduceIte, reduceCtorEq, Nat.reduceLeDiff, Nat.reduceSubDiff, Nat.reduceBEq] <;> clear h) | ((first | refine callX_new (hpi) rfl (by decide) ?_ | refine callY_new (hpi) rfl ?_ | refine hE _ _ ret_ne ?_ | refine hE _ _ exit_ne ?_) <;> try simp (disch := first | omega | decide +kernel) only [el_ints, el_intss, el_steps, wrap_of, Int.toNat_natCast, toNat_pred, Int.toNat_zero, Nat.sub_zero, List.drop_zero, ← List.map_take, ← List.map_drop, el_eds, hsd, D.ed, go_sem, Nat.reduceEqDiff, Nat.reduceLT, Nat.reduceAdd, Nat.reduceMul, Nat.reduceSub, ↓reduceIte, reduceCtorEq, Nat.reduceLeDiff, Nat.reduceSubDiff, Nat.reduceBEq]) | (refine hN _ ?_ ?_ (Wk.auto (by simp [extraK, lk, killL, St.kill, wipeO, wipeS, AV.has, AV.hasL, AO.wipe, List.map_set, updSt, insL, dropS, ins]) (by simp [extraK, lk, killL, St.kill, wipeO, wipeS, AV.has, AV.hasL, AO.wipe, List.map_set, updSt, insL, dropS, ins]))) | (with_reducible refine And.intro ?_ ?_) | (with_reducible omega) | (exact ok_ints) | (exact cells_ints) | (exact no_mem) | (with_reducible exact plain_ints) | (refine le_maxLen ?_; omega) | (refine List.forall_mem_cons.2 ⟨?_, ?_⟩) | (simp only [go_sem, List.length_cons, List.length_nil, Nat.reduceAdd, Nat.reduceLT, Nat.zero_lt_succ, and_self, List.mem_cons, List.not_mem_nil, or_false, forall_eq]; done)))
    · rw [idxR_some hlt (by rw [hsd]; exact decide_eq_true (by assumption)) hI]
    · exact all_succ hI (by rw [hsd]; exact decide_eq_false (by assumption))
  · simp (disch := first | omega | decide +kernel) only [el_ints, el_intss, el_steps, wrap_of, Int.toNat_natCast, toNat_pred, Int.toNat_zero, Nat.sub_zero, List.drop_zero, ← List.map_take, ← List.map_drop, go_sem, Nat.reduceEqDiff, Nat.reduceLT, Nat.reduceAdd, Nat.reduceMul, Nat.reduceSub, ↓reduceIte, reduceCtorEq, Nat.reduceLeDiff, Nat.reduceSubDiff, Nat.reduceBEq]
    (repeat' (first | (refine gsel_split (fun h => ?_) (fun h => ?_) <;> (have h' := h) <;> (try simp only [decide_eq_true_eq, decide_eq_false_iff_not, Bool.not_eq_true', Bool.not_eq_false', bne_iff_ne, ne_eq, beq_iff_eq, bne_eq_false_iff_eq, beq_eq_false_iff_ne, Int.ofNat_lt, Int.ofNat_le, Int.not_lt, Int.not_le, Decidable.not_not, Bool.and_eq_true, Bool.or_eq_true, Bool.or_eq_false_iff, gt_iff_lt, ge_iff_le] at h') <;> simp (disch := first | omega | decide +kernel) only [h, el_ints, el_intss, el_steps, wrap_of, Int.toNat_natCast, toNat_pred, Int.toNat_zero, Nat.sub_zero, List.drop_zero, ← List.map_take, ← List.map_drop, go_sem, Nat.reduceEqDiff, Nat.reduceLT, Nat.reduceAdd, Nat.reduceMul, Nat.reduceSub, ↓reduceIte, reduceCtorEq, Nat.reduceLeDiff, Nat.reduceSubDiff, Nat.reduceBEq] <;> clear h) | ((first | refine hE _ _ ret_ne ?_ | refine hE _ _ exit_ne ?_) <;> try simp (disch := first | omega | decide +kernel) only [el_ints, el_intss, el_steps, wrap_of, Int.toNat_natCast, toNat_pred, Int.toNat_zero, Nat.sub_zero, List.drop_zero, ← List.map_take, ← List.map_drop, go_sem, Nat.reduceEqDiff, Nat.reduceLT, Nat.reduceAdd, Nat.reduceMul, Nat.reduceSub, ↓reduceIte, reduceCtorEq, Nat.reduceLeDiff, Nat.reduceSubDiff, Nat.reduceBEq]) | (refine hN _ ?_ ?_ (Wk.auto (by simp [extraK, lk, killL, St.kill, wipeO, wipeS, AV.has, AV.hasL, AO.wipe, List.map_set, updSt, insL, dropS, ins]) (by simp [extraK, lk, killL, St.kill, wipeO, wipeS, AV.has, AV.hasL, AO.wipe, List.map_set, updSt, insL, dropS, ins]))) | (with_reducible refine And.intro ?_ ?_) | (with_reducible omega) | (exact ok_ints) | (exact cells_ints) | (exact no_mem) | (with_reducible exact plain_ints) | (refine le_maxLen ?_; omega) | (refine List.forall_mem_cons.2 ⟨?_, ?_⟩) | (simp only [go_sem, List.length_cons, List.length_nil, Nat.reduceAdd, Nat.reduceLT, Nat.zero_lt_succ, and_self, List.mem_cons, List.not_mem_nil, or_false, forall_eq]; done)))
    rw [idxR_none fun j hj => hI j (by omega)]
theorem hasV_idx (l : List (Int × Int)) (x : Int) : decide (0 ≤ idxR (fun j => decide ((l.getD j (0, 0)).1 = x)) l.length) = hasV l x := by
  by_cases h : ∃ j, j < l.length ∧ decide ((l.getD j (0, 0)).1 = x) = true
  · obtain ⟨j, hj, hp⟩ := h
    have h1 : hasV l x = true := any_true (z := (0, 0)) hj hp
    rw [h1]
    unfold idxR
    cases hf : (List.range l.length).find? fun j => decide ((l.getD j (0, 0)).1 = x) with
    | some k => simp
    | none => rw [List.find?_range_eq_none] at hf; exact absurd hp (by simpa using hf j hj)
  · have h2 : ∀ j, j < l.length → decide ((l.getD j (0, 0)).1 = x) = false := fun j hj => by
      cases hb : decide ((l.getD j (0, 0)).1 = x) with
      | false => rfl
      | true => exact absurd ⟨j, hj, hb⟩ h
    rw [idxR_none h2, show hasV l x = false from any_false (z := (0, 0)) h2]; rfl
theorem containsFuncR_ok (l : List (Int × Int)) (x : Int) (hl : l.length ≤ 1048576) :
    Ctr Try.prog 147 [.slice (l.map D.ed), .fn (.func 148) [] [.ptr (.int .i64 x)]] false (.d (.bool (hasV l x))) [] := by
  have c1 := indexFuncR_ok l x hl
  rw [← hasV_idx]
  refine Ctr.of (n := 9) (rs := [.tmp 4]) Try.func147 rfl rfl Try.ntmps147 rfl rfl (by kernel_rfl) Try.checked.mixed ?_
  simp (disch := first | omega | decide +kernel) only [el_ints, el_intss, el_steps, wrap_of, Int.toNat_natCast, toNat_pred, Int.toNat_zero, Nat.sub_zero, List.drop_zero, ← List.map_take, ← List.map_drop, go_sem, Nat.reduceEqDiff, Nat.reduceLT, Nat.reduceAdd, Nat.reduceMul, Nat.reduceSub, ↓reduceIte, reduceCtorEq, Nat.reduceLeDiff, Nat.reduceSubDiff, Nat.reduceBEq]
  (repeat' (first | (refine gsel_split (fun h => ?_) (fun h => ?_) <;> (have h' := h) <;> (try simp only [decide_eq_true_eq, decide_eq_false_iff_not, Bool.not_eq_true', Bool.not_eq_false', bne_iff_ne, ne_eq, beq_iff_eq, bne_eq_false_iff_eq, beq_eq_false_iff_ne, Int.ofNat_lt, Int.ofNat_le, Int.not_lt, Int.not_le, Decidable.not_not, Bool.and_eq_true, Bool.or_eq_true, Bool.or_eq_false_iff, gt_iff_lt, ge_iff_le] at h') <;> simp (disch := first | omega | decide +kernel) only [h, el_ints, el_intss, el_steps, wrap_of, Int.toNat_natCast, toNat_pred, Int.toNat_zero, Nat.sub_zero, List.drop_zero, ← List.map_take, ← List.map_drop, go_sem, Nat.reduceEqDiff, Nat.reduceLT, Nat.reduceAdd, Nat.reduceMul, Nat.reduceSub, ↓reduceIte, reduceCtorEq, Nat.reduceLeDiff, Nat.reduceSubDiff, Nat.reduceBEq] <;> clear h) | ((first | refine callX_new (c1) rfl (by decide) ?_ | refine callY_new (c1) rfl ?_ | refine hE _ _ ret_ne ?_ | refine hE _ _ exit_ne ?_) <;> try simp (disch := first | omega | decide +kernel) only [el_ints, el_intss, el_steps, wrap_of, Int.toNat_natCast, toNat_pred, Int.toNat_zero, Nat.sub_zero, List.drop_zero, ← List.map_take, ← List.map_drop, go_sem, Nat.reduceEqDiff, Nat.reduceLT, Nat.reduceAdd, Nat.reduceMul, Nat.reduceSub, ↓reduceIte, reduceCtorEq, Nat.reduceLeDiff, Nat.reduceSubDiff, Nat.reduceBEq]) | (refine hN _ ?_ ?_ (Wk.auto (by simp [extraK, lk, killL, St.kill, wipeO, wipeS, AV.has, AV.hasL, AO.wipe, List.map_set, updSt, insL, dropS, ins]) (by simp [extraK, lk, killL, St.kill, wipeO, wipeS, AV.has, AV.hasL, AO.wipe, List.map_set, updSt, insL, dropS, ins]))) | (with_reducible refine And.intro ?_ ?_) | (with_reducible omega) | (exact ok_ints) | (exact cells_ints) | (exact no_mem) | (with_reducible exact plain_ints) | (refine le_maxLen ?_; omega) | (refine List.forall_mem_cons.2 ⟨?_, ?_⟩) | (simp only [go_sem, List.length_cons, List.length_nil, Nat.reduceAdd, Nat.reduceLT, Nat.zero_lt_succ, and_self, List.mem_cons, List.not_mem_nil, or_false, forall_eq]; done)))
end Abs.Y
