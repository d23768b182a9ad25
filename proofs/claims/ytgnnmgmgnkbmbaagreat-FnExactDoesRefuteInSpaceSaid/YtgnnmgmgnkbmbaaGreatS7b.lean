/- What functions of this program compute, as contracts over plain data, with what the proofs need of them. No condition. -/
import Derived.Test.YtgnnmgmgnkbmbaaGreatS5
set_option linter.all false
namespace Abs.Y
open Go Go.Proofs Abs
set_option maxRecDepth 100000

/-- Slots with an empty part of nothing hold an empty shared row. -/
def e0S : List (Nat × AV) → List (Nat × AV)
  | [] => []
  | (k, v) :: r => (k, match v with | .e0 => .d (.slice []) | v => v) :: e0S r
theorem lk_e0S {i : Nat} {v : AV} : ∀ {l : List (Nat × AV)}, lk i (e0S l) = some v → ∃ u, lk i l = some u ∧ v = (match u with | .e0 => .d (.slice []) | v => v)
  | [], h => by simp [e0S, lk] at h
  | (k, u) :: r, h => by
    simp only [e0S, lk] at h ⊢
    split at h
    · rename_i hk
      rw [if_pos hk]
      exact ⟨u, rfl, (Option.some.inj h).symm⟩
    · rename_i hk
      rw [if_neg hk]
      exact lk_e0S h
theorem Wk.e0 {N : Nat} {st : St} : Wk N st ⟨e0S st.s, st.o⟩ := fun Z β φ B M w0 a w h => by
  refine ⟨β, φ, h.nd, h.size, fun i av hi => ?_, h.objs, h.own, h.disj, h.fr, h.z⟩
  obtain ⟨u, hu, rfl⟩ := lk_e0S hi
  have := h.slots i u hu
  revert this
  generalize a.tmps.getD i Go.undef = tv
  intro this
  cases this with
  | e0n => exact .d (.nil _)
  | e0s a => exact .d (.nil _)
  | undef _ => exact .undef _
  | d h => exact .d h
  | sl j => exact .sl j
  | p h => exact .p h
  | pe h => exact .pe h
  | tup hl hr => exact .tup hl hr
  | fn hl hr => exact .fn hl hr
  | hdr h => exact .hdr h
  | nilS => exact .nilS
  | st hl hr => exact .st hl hr
theorem Ok.ends {P : Program} {N : Nat} {c : Code} {Q : Exit → St → Prop} {st : St} (h : Ok P N c (fun e st => Q e ⟨e0S st.s, st.o⟩) st) : Ok P N c Q st := fun h1 h2 Z B M w0 a w hs =>
  wp_mono (h h1 h2 Z B M w0 a w hs) fun e a w hl => by
    cases e <;> simp only [lift] at hl ⊢ <;> (try exact hl.elim) <;>
    · obtain ⟨st', ⟨β, φ, hs'⟩, hq⟩ := hl
      obtain ⟨β', φ', h'⟩ := Wk.e0 _ _ _ _ _ _ _ _ hs'
      exact ⟨_, ⟨β', φ', h'⟩, hq⟩

section
variable (v : Int) (cs now : List (List Int)) (s : SStep) (n : Nat) (hcs : ∀ c ∈ cs, Good c) (hcl : cs.length ≤ 1048576) (hn : Cfg now n) (hnn : n ≤ 1000000)
include hcs hcl hn hnn
set_option maxHeartbeats 8000000 in
theorem l15_forget (h3 : s.k = 3) (ha : 0 ≤ s.a ∧ s.a ≤ (now.length : Int) - 1) : Ctr Tryz.prog 61 [.agg [.int .i64 v, .slice (cs.map D.ints)], .slice (now.map D.ints), D.sst s] true (stepR v cs now s) [] := by
  have hlen := hn.len
  have hN : stepN v cs now s = cutS now s.a.toNat := by unfold stepN; rw [if_pos ⟨by omega, h3, ha⟩]
  have hC : stepC v cs now s = [] := by unfold stepC; rw [if_pos (.inl h3)]
  have hO : (nextS v cs now s).isSome = decide (s.b = 0 ∧ s.p = 0) := by
    unfold nextS
    rw [if_pos h3]
    by_cases h : s.b = 0 ∧ s.p = 0
    · rw [if_pos ⟨ha, h⟩, decide_eq_true h]; rfl
    · rw [if_neg fun h' => h h'.2, decide_eq_false h]; rfl
  have c1 := l1In_ok s.a 0 ((now.length : Int) - 1)
  rw [in_yes ha] at c1
  unfold stepR
  rw [hN, hC, hO]
  unfold cutS
  obtain ⟨k, hk⟩ : ∃ k : Nat, s.a = k := ⟨s.a.toNat, by omega⟩
  have hkk : s.a.toNat = k := by omega
  have hkt : ((k : Nat) : Int).toNat = k := by omega
  have hk1 : ((k : Int) + 1).toNat = k + 1 := by omega
  rw [hkk]
  rw [hk] at c1
  have hd : (now.drop (k + 1)).take (now.length - (k + 1)) = now.drop (k + 1) := List.take_of_length_le (by simp)
  have hdl : (now.drop (k + 1)).length ≤ now.length := by simp
  rcases Nat.eq_zero_or_pos k with h0 | h0
  · have hz : now.take k = [] := by rw [h0]; rfl
    rw [hz]
    cases hdr : now.drop (k + 1) with
    | nil =>
      rw [hdr] at hdl
      have hd := hd.trans hdr
      by_cases hb : s.b = 0
      · rw [show decide (s.b = 0 ∧ s.p = 0) = (s.p == 0) by simp [hb]; rfl]
        refine Ctr.ofK (n := 146) (rs := [.tmp 6, .tmp 7, .tmp 8]) Tryz.func61 rfl rfl Tryz.ntmps61 rfl rfl (by kernel_rfl) Tryz.checked.mixed ?_; refine Ok.ends ?_; refine Awp.cut ?_
        simp (disch := first | omega | decide +kernel) only [D.sst, el_ints, el_intss, el_steps, wrap_of, Int.toNat_natCast, toNat_pred, Int.toNat_zero, Nat.sub_zero, List.drop_zero, ← List.map_take, ← List.map_drop, go_sem, Nat.reduceEqDiff, Nat.reduceLT, Nat.reduceAdd, Nat.reduceMul, Nat.reduceSub, ↓reduceIte, reduceCtorEq, Nat.reduceLeDiff, Nat.reduceSubDiff, Nat.reduceBEq]
        refine ⟨_, (Wk.bfz 3 (.agg [.int .i64 v, .slice (cs.map D.ints)]) rfl rfl).trans (Wk.bfz 5 (D.sst s) rfl rfl), ?_⟩
        simp (disch := first | omega | decide +kernel) only [bfzS, bfzO, AV.bfz, AV.bfzL, AO.bfz, D.sst, hk, hkt, hk1, hz, hd, List.map_nil, el_ints, el_intss, el_steps, wrap_of, Int.toNat_natCast, toNat_pred, Int.toNat_zero, Nat.sub_zero, List.drop_zero, ← List.map_take, ← List.map_drop, go_sem, Nat.reduceEqDiff, Nat.reduceLT, Nat.reduceAdd, Nat.reduceMul, Nat.reduceSub, ↓reduceIte, reduceCtorEq, Nat.reduceLeDiff, Nat.reduceSubDiff, Nat.reduceBEq]
        (repeat' (first | (refine gsel_split (fun h => ?_) (fun h => ?_) <;> (have h' := h) <;> (try simp only [decide_eq_true_eq, decide_eq_false_iff_not, Bool.not_eq_true', Bool.not_eq_false', bne_iff_ne, ne_eq, beq_iff_eq, bne_eq_false_iff_eq, beq_eq_false_iff_ne, Int.ofNat_lt, Int.ofNat_le, Int.not_lt, Int.not_le, Decidable.not_not, Bool.and_eq_true, Bool.or_eq_true, Bool.or_eq_false_iff, gt_iff_lt, ge_iff_le] at h') <;> simp (disch := first | omega | decide +kernel) only [h, el_ints, el_intss, el_steps, wrap_of, Int.toNat_natCast, toNat_pred, Int.toNat_zero, Nat.sub_zero, List.drop_zero, ← List.map_take, ← List.map_drop, D.sst, D.ints, hk, hkt, hk1, hz, hd, List.map_nil, go_sem, Nat.reduceEqDiff, Nat.reduceLT, Nat.reduceAdd, Nat.reduceMul, Nat.reduceSub, ↓reduceIte, reduceCtorEq, Nat.reduceLeDiff, Nat.reduceSubDiff, Nat.reduceBEq] <;> clear h) | ((first | refine callX_new (c1) rfl (by decide) ?_ | refine callY_new (c1) rfl ?_ | refine hE _ _ ret_ne ?_ | refine hE _ _ exit_ne ?_) <;> try simp (disch := first | omega | decide +kernel) only [el_ints, el_intss, el_steps, wrap_of, Int.toNat_natCast, toNat_pred, Int.toNat_zero, Nat.sub_zero, List.drop_zero, ← List.map_take, ← List.map_drop, D.sst, D.ints, hk, hkt, hk1, hz, hd, List.map_nil, go_sem, Nat.reduceEqDiff, Nat.reduceLT, Nat.reduceAdd, Nat.reduceMul, Nat.reduceSub, ↓reduceIte, reduceCtorEq, Nat.reduceLeDiff, Nat.reduceSubDiff, Nat.reduceBEq]) | (refine hN _ ?_ ?_ (Wk.auto (by simp [extraK, lk, killL, St.kill, wipeO, wipeS, AV.has, AV.hasL, AO.wipe, List.map_set, updSt, insL, dropS, ins]) (by simp [extraK, lk, killL, St.kill, wipeO, wipeS, AV.has, AV.hasL, AO.wipe, List.map_set, updSt, insL, dropS, ins]))) | (with_reducible refine And.intro ?_ ?_) | (with_reducible omega) | (exact ok_ints) | (exact cells_ints) | (exact no_mem) | (with_reducible exact plain_ints) | (refine le_maxLen ?_; omega) | (refine List.forall_mem_cons.2 ⟨?_, ?_⟩) | (simp only [go_sem, List.length_cons, List.length_nil, Nat.reduceAdd, Nat.reduceLT, Nat.zero_lt_succ, and_self, List.mem_cons, List.not_mem_nil, or_false, forall_eq]; done)))
        all_goals (first | exact cells_intss | exact ok_intss | exact ok_ints1 | (exact ret_s3 [] rfl rfl rfl) | (exact ret_s3 [85] rfl rfl rfl) | trace_state)
      · rw [show decide (s.b = 0 ∧ s.p = 0) = false by simp [hb]]
        refine Ctr.ofK (n := 146) (rs := [.tmp 6, .tmp 7, .tmp 8]) Tryz.func61 rfl rfl Tryz.ntmps61 rfl rfl (by kernel_rfl) Tryz.checked.mixed ?_; refine Ok.ends ?_; refine Awp.cut ?_
        simp (disch := first | omega | decide +kernel) only [D.sst, el_ints, el_intss, el_steps, wrap_of, Int.toNat_natCast, toNat_pred, Int.toNat_zero, Nat.sub_zero, List.drop_zero, ← List.map_take, ← List.map_drop, go_sem, Nat.reduceEqDiff, Nat.reduceLT, Nat.reduceAdd, Nat.reduceMul, Nat.reduceSub, ↓reduceIte, reduceCtorEq, Nat.reduceLeDiff, Nat.reduceSubDiff, Nat.reduceBEq]
        refine ⟨_, (Wk.bfz 3 (.agg [.int .i64 v, .slice (cs.map D.ints)]) rfl rfl).trans (Wk.bfz 5 (D.sst s) rfl rfl), ?_⟩
        simp (disch := first | omega | decide +kernel) only [bfzS, bfzO, AV.bfz, AV.bfzL, AO.bfz, D.sst, hk, hkt, hk1, hz, hd, List.map_nil, el_ints, el_intss, el_steps, wrap_of, Int.toNat_natCast, toNat_pred, Int.toNat_zero, Nat.sub_zero, List.drop_zero, ← List.map_take, ← List.map_drop, go_sem, Nat.reduceEqDiff, Nat.reduceLT, Nat.reduceAdd, Nat.reduceMul, Nat.reduceSub, ↓reduceIte, reduceCtorEq, Nat.reduceLeDiff, Nat.reduceSubDiff, Nat.reduceBEq]
        (repeat' (first | (refine gsel_split (fun h => ?_) (fun h => ?_) <;> (have h' := h) <;> (try simp only [decide_eq_true_eq, decide_eq_false_iff_not, Bool.not_eq_true', Bool.not_eq_false', bne_iff_ne, ne_eq, beq_iff_eq, bne_eq_false_iff_eq, beq_eq_false_iff_ne, Int.ofNat_lt, Int.ofNat_le, Int.not_lt, Int.not_le, Decidable.not_not, Bool.and_eq_true, Bool.or_eq_true, Bool.or_eq_false_iff, gt_iff_lt, ge_iff_le] at h') <;> simp (disch := first | omega | decide +kernel) only [h, el_ints, el_intss, el_steps, wrap_of, Int.toNat_natCast, toNat_pred, Int.toNat_zero, Nat.sub_zero, List.drop_zero, ← List.map_take, ← List.map_drop, D.sst, D.ints, hk, hkt, hk1, hz, hd, List.map_nil, go_sem, Nat.reduceEqDiff, Nat.reduceLT, Nat.reduceAdd, Nat.reduceMul, Nat.reduceSub, ↓reduceIte, reduceCtorEq, Nat.reduceLeDiff, Nat.reduceSubDiff, Nat.reduceBEq] <;> clear h) | ((first | refine callX_new (c1) rfl (by decide) ?_ | refine callY_new (c1) rfl ?_ | refine hE _ _ ret_ne ?_ | refine hE _ _ exit_ne ?_) <;> try simp (disch := first | omega | decide +kernel) only [el_ints, el_intss, el_steps, wrap_of, Int.toNat_natCast, toNat_pred, Int.toNat_zero, Nat.sub_zero, List.drop_zero, ← List.map_take, ← List.map_drop, D.sst, D.ints, hk, hkt, hk1, hz, hd, List.map_nil, go_sem, Nat.reduceEqDiff, Nat.reduceLT, Nat.reduceAdd, Nat.reduceMul, Nat.reduceSub, ↓reduceIte, reduceCtorEq, Nat.reduceLeDiff, Nat.reduceSubDiff, Nat.reduceBEq]) | (refine hN _ ?_ ?_ (Wk.auto (by simp [extraK, lk, killL, St.kill, wipeO, wipeS, AV.has, AV.hasL, AO.wipe, List.map_set, updSt, insL, dropS, ins]) (by simp [extraK, lk, killL, St.kill, wipeO, wipeS, AV.has, AV.hasL, AO.wipe, List.map_set, updSt, insL, dropS, ins]))) | (with_reducible refine And.intro ?_ ?_) | (with_reducible omega) | (exact ok_ints) | (exact cells_ints) | (exact no_mem) | (with_reducible exact plain_ints) | (refine le_maxLen ?_; omega) | (refine List.forall_mem_cons.2 ⟨?_, ?_⟩) | (simp only [go_sem, List.length_cons, List.length_nil, Nat.reduceAdd, Nat.reduceLT, Nat.zero_lt_succ, and_self, List.mem_cons, List.not_mem_nil, or_false, forall_eq]; done)))
        all_goals (first | exact cells_intss | exact ok_intss | exact ok_ints1 | (exact ret_s3 [] rfl rfl rfl) | (exact ret_s3 [85] rfl rfl rfl) | trace_state)
    | cons y2 r2 =>
      rw [hdr] at hdl
      have hd := hd.trans hdr
      simp only [List.length_cons] at hdl
      by_cases hb : s.b = 0
      · rw [show decide (s.b = 0 ∧ s.p = 0) = (s.p == 0) by simp [hb]; rfl]
        refine Ctr.ofK (n := 146) (rs := [.tmp 6, .tmp 7, .tmp 8]) Tryz.func61 rfl rfl Tryz.ntmps61 rfl rfl (by kernel_rfl) Tryz.checked.mixed ?_; refine Ok.ends ?_; refine Awp.cut ?_
        simp (disch := first | omega | decide +kernel) only [D.sst, el_ints, el_intss, el_steps, wrap_of, Int.toNat_natCast, toNat_pred, Int.toNat_zero, Nat.sub_zero, List.drop_zero, ← List.map_take, ← List.map_drop, go_sem, Nat.reduceEqDiff, Nat.reduceLT, Nat.reduceAdd, Nat.reduceMul, Nat.reduceSub, ↓reduceIte, reduceCtorEq, Nat.reduceLeDiff, Nat.reduceSubDiff, Nat.reduceBEq]
        refine ⟨_, (Wk.bfz 3 (.agg [.int .i64 v, .slice (cs.map D.ints)]) rfl rfl).trans (Wk.bfz 5 (D.sst s) rfl rfl), ?_⟩
        simp (disch := first | omega | decide +kernel) only [bfzS, bfzO, AV.bfz, AV.bfzL, AO.bfz, D.sst, hk, hkt, hk1, hz, hd, List.map_nil, List.map_cons, el_ints, el_intss, el_steps, wrap_of, Int.toNat_natCast, toNat_pred, Int.toNat_zero, Nat.sub_zero, List.drop_zero, ← List.map_take, ← List.map_drop, go_sem, Nat.reduceEqDiff, Nat.reduceLT, Nat.reduceAdd, Nat.reduceMul, Nat.reduceSub, ↓reduceIte, reduceCtorEq, Nat.reduceLeDiff, Nat.reduceSubDiff, Nat.reduceBEq]
        (repeat' (first | (refine gsel_split (fun h => ?_) (fun h => ?_) <;> (have h' := h) <;> (try simp only [decide_eq_true_eq, decide_eq_false_iff_not, Bool.not_eq_true', Bool.not_eq_false', bne_iff_ne, ne_eq, beq_iff_eq, bne_eq_false_iff_eq, beq_eq_false_iff_ne, Int.ofNat_lt, Int.ofNat_le, Int.not_lt, Int.not_le, Decidable.not_not, Bool.and_eq_true, Bool.or_eq_true, Bool.or_eq_false_iff, gt_iff_lt, ge_iff_le] at h') <;> simp (disch := first | omega | decide +kernel) only [h, el_ints, el_intss, el_steps, wrap_of, Int.toNat_natCast, toNat_pred, Int.toNat_zero, Nat.sub_zero, List.drop_zero, ← List.map_take, ← List.map_drop, D.sst, D.ints, hk, hkt, hk1, hz, hd, List.map_nil, List.map_cons, go_sem, Nat.reduceEqDiff, Nat.reduceLT, Nat.reduceAdd, Nat.reduceMul, Nat.reduceSub, ↓reduceIte, reduceCtorEq, Nat.reduceLeDiff, Nat.reduceSubDiff, Nat.reduceBEq] <;> clear h) | ((first | refine callX_new (c1) rfl (by decide) ?_ | refine callY_new (c1) rfl ?_ | refine hE _ _ ret_ne ?_ | refine hE _ _ exit_ne ?_) <;> try simp (disch := first | omega | decide +kernel) only [el_ints, el_intss, el_steps, wrap_of, Int.toNat_natCast, toNat_pred, Int.toNat_zero, Nat.sub_zero, List.drop_zero, ← List.map_take, ← List.map_drop, D.sst, D.ints, hk, hkt, hk1, hz, hd, List.map_nil, List.map_cons, go_sem, Nat.reduceEqDiff, Nat.reduceLT, Nat.reduceAdd, Nat.reduceMul, Nat.reduceSub, ↓reduceIte, reduceCtorEq, Nat.reduceLeDiff, Nat.reduceSubDiff, Nat.reduceBEq]) | (refine hN _ ?_ ?_ (Wk.auto (by simp [extraK, lk, killL, St.kill, wipeO, wipeS, AV.has, AV.hasL, AO.wipe, List.map_set, updSt, insL, dropS, ins]) (by simp [extraK, lk, killL, St.kill, wipeO, wipeS, AV.has, AV.hasL, AO.wipe, List.map_set, updSt, insL, dropS, ins]))) | (with_reducible refine And.intro ?_ ?_) | (with_reducible omega) | (exact ok_ints) | (exact cells_ints) | (exact no_mem) | (with_reducible exact plain_ints) | (refine le_maxLen ?_; omega) | (refine List.forall_mem_cons.2 ⟨?_, ?_⟩) | (simp only [go_sem, List.length_cons, List.length_nil, Nat.reduceAdd, Nat.reduceLT, Nat.zero_lt_succ, and_self, List.mem_cons, List.not_mem_nil, or_false, forall_eq]; done)))
        all_goals (first | exact cells_intss | exact ok_intss | exact ok_ints1 | (exact ret_s3 [83] rfl rfl rfl) | (exact ret_s3 [83, 85] rfl rfl rfl) | trace_state)
      · rw [show decide (s.b = 0 ∧ s.p = 0) = false by simp [hb]]
        refine Ctr.ofK (n := 146) (rs := [.tmp 6, .tmp 7, .tmp 8]) Tryz.func61 rfl rfl Tryz.ntmps61 rfl rfl (by kernel_rfl) Tryz.checked.mixed ?_; refine Ok.ends ?_; refine Awp.cut ?_
        simp (disch := first | omega | decide +kernel) only [D.sst, el_ints, el_intss, el_steps, wrap_of, Int.toNat_natCast, toNat_pred, Int.toNat_zero, Nat.sub_zero, List.drop_zero, ← List.map_take, ← List.map_drop, go_sem, Nat.reduceEqDiff, Nat.reduceLT, Nat.reduceAdd, Nat.reduceMul, Nat.reduceSub, ↓reduceIte, reduceCtorEq, Nat.reduceLeDiff, Nat.reduceSubDiff, Nat.reduceBEq]
        refine ⟨_, (Wk.bfz 3 (.agg [.int .i64 v, .slice (cs.map D.ints)]) rfl rfl).trans (Wk.bfz 5 (D.sst s) rfl rfl), ?_⟩
        simp (disch := first | omega | decide +kernel) only [bfzS, bfzO, AV.bfz, AV.bfzL, AO.bfz, D.sst, hk, hkt, hk1, hz, hd, List.map_nil, List.map_cons, el_ints, el_intss, el_steps, wrap_of, Int.toNat_natCast, toNat_pred, Int.toNat_zero, Nat.sub_zero, List.drop_zero, ← List.map_take, ← List.map_drop, go_sem, Nat.reduceEqDiff, Nat.reduceLT, Nat.reduceAdd, Nat.reduceMul, Nat.reduceSub, ↓reduceIte, reduceCtorEq, Nat.reduceLeDiff, Nat.reduceSubDiff, Nat.reduceBEq]
        (repeat' (first | (refine gsel_split (fun h => ?_) (fun h => ?_) <;> (have h' := h) <;> (try simp only [decide_eq_true_eq, decide_eq_false_iff_not, Bool.not_eq_true', Bool.not_eq_false', bne_iff_ne, ne_eq, beq_iff_eq, bne_eq_false_iff_eq, beq_eq_false_iff_ne, Int.ofNat_lt, Int.ofNat_le, Int.not_lt, Int.not_le, Decidable.not_not, Bool.and_eq_true, Bool.or_eq_true, Bool.or_eq_false_iff, gt_iff_lt, ge_iff_le] at h') <;> simp (disch := first | omega | decide +kernel) only [h, el_ints, el_intss, el_steps, wrap_of, Int.toNat_natCast, toNat_pred, Int.toNat_zero, Nat.sub_zero, List.drop_zero, ← List.map_take, ← List.map_drop, D.sst, D.ints, hk, hkt, hk1, hz, hd, List.map_nil, List.map_cons, go_sem, Nat.reduceEqDiff, Nat.reduceLT, Nat.reduceAdd, Nat.reduceMul, Nat.reduceSub, ↓reduceIte, reduceCtorEq, Nat.reduceLeDiff, Nat.reduceSubDiff, Nat.reduceBEq] <;> clear h) | ((first | refine callX_new (c1) rfl (by decide) ?_ | refine callY_new (c1) rfl ?_ | refine hE _ _ ret_ne ?_ | refine hE _ _ exit_ne ?_) <;> try simp (disch := first | omega | decide +kernel) only [el_ints, el_intss, el_steps, wrap_of, Int.toNat_natCast, toNat_pred, Int.toNat_zero, Nat.sub_zero, List.drop_zero, ← List.map_take, ← List.map_drop, D.sst, D.ints, hk, hkt, hk1, hz, hd, List.map_nil, List.map_cons, go_sem, Nat.reduceEqDiff, Nat.reduceLT, Nat.reduceAdd, Nat.reduceMul, Nat.reduceSub, ↓reduceIte, reduceCtorEq, Nat.reduceLeDiff, Nat.reduceSubDiff, Nat.reduceBEq]) | (refine hN _ ?_ ?_ (Wk.auto (by simp [extraK, lk, killL, St.kill, wipeO, wipeS, AV.has, AV.hasL, AO.wipe, List.map_set, updSt, insL, dropS, ins]) (by simp [extraK, lk, killL, St.kill, wipeO, wipeS, AV.has, AV.hasL, AO.wipe, List.map_set, updSt, insL, dropS, ins]))) | (with_reducible refine And.intro ?_ ?_) | (with_reducible omega) | (exact ok_ints) | (exact cells_ints) | (exact no_mem) | (with_reducible exact plain_ints) | (refine le_maxLen ?_; omega) | (refine List.forall_mem_cons.2 ⟨?_, ?_⟩) | (simp only [go_sem, List.length_cons, List.length_nil, Nat.reduceAdd, Nat.reduceLT, Nat.zero_lt_succ, and_self, List.mem_cons, List.not_mem_nil, or_false, forall_eq]; done)))
        all_goals (first | exact cells_intss | exact ok_intss | exact ok_ints1 | (exact ret_s3 [83] rfl rfl rfl) | (exact ret_s3 [83, 85] rfl rfl rfl) | trace_state)
  · obtain ⟨y, r, hyr⟩ : ∃ y r, now.take k = y :: r := by
      cases h : now.take k with
      | nil => have := congrArg List.length h; simp only [List.length_take, List.length_nil] at this; omega
      | cons y r => exact ⟨y, r, rfl⟩
    have hrl : r.length + 1 ≤ now.length := by have := congrArg List.length hyr; simp only [List.length_take, List.length_cons] at this; omega
    rw [hyr, List.cons_append, List.map_cons, List.map_append]
    by_cases hb : s.b = 0
    · rw [show decide (s.b = 0 ∧ s.p = 0) = (s.p == 0) by simp [hb]; rfl]
      refine Ctr.ofK (n := 146) (rs := [.tmp 6, .tmp 7, .tmp 8]) Tryz.func61 rfl rfl Tryz.ntmps61 rfl rfl (by kernel_rfl) Tryz.checked.mixed ?_; refine Ok.ends ?_; refine Awp.cut ?_
      simp (disch := first | omega | decide +kernel) only [D.sst, el_ints, el_intss, el_steps, wrap_of, Int.toNat_natCast, toNat_pred, Int.toNat_zero, Nat.sub_zero, List.drop_zero, ← List.map_take, ← List.map_drop, go_sem, Nat.reduceEqDiff, Nat.reduceLT, Nat.reduceAdd, Nat.reduceMul, Nat.reduceSub, ↓reduceIte, reduceCtorEq, Nat.reduceLeDiff, Nat.reduceSubDiff, Nat.reduceBEq]
      refine ⟨_, (Wk.bfz 3 (.agg [.int .i64 v, .slice (cs.map D.ints)]) rfl rfl).trans (Wk.bfz 5 (D.sst s) rfl rfl), ?_⟩
      simp (disch := first | omega | decide +kernel) only [bfzS, bfzO, AV.bfz, AV.bfzL, AO.bfz, D.sst, hk, hkt, hk1, hyr, hd, List.map_cons, el_ints, el_intss, el_steps, wrap_of, Int.toNat_natCast, toNat_pred, Int.toNat_zero, Nat.sub_zero, List.drop_zero, ← List.map_take, ← List.map_drop, go_sem, Nat.reduceEqDiff, Nat.reduceLT, Nat.reduceAdd, Nat.reduceMul, Nat.reduceSub, ↓reduceIte, reduceCtorEq, Nat.reduceLeDiff, Nat.reduceSubDiff, Nat.reduceBEq]
      (repeat' (first | (refine gsel_split (fun h => ?_) (fun h => ?_) <;> (have h' := h) <;> (try simp only [decide_eq_true_eq, decide_eq_false_iff_not, Bool.not_eq_true', Bool.not_eq_false', bne_iff_ne, ne_eq, beq_iff_eq, bne_eq_false_iff_eq, beq_eq_false_iff_ne, Int.ofNat_lt, Int.ofNat_le, Int.not_lt, Int.not_le, Decidable.not_not, Bool.and_eq_true, Bool.or_eq_true, Bool.or_eq_false_iff, gt_iff_lt, ge_iff_le] at h') <;> simp (disch := first | omega | decide +kernel) only [h, el_ints, el_intss, el_steps, wrap_of, Int.toNat_natCast, toNat_pred, Int.toNat_zero, Nat.sub_zero, List.drop_zero, ← List.map_take, ← List.map_drop, D.sst, D.ints, hk, hkt, hk1, hyr, hd, List.map_cons, go_sem, Nat.reduceEqDiff, Nat.reduceLT, Nat.reduceAdd, Nat.reduceMul, Nat.reduceSub, ↓reduceIte, reduceCtorEq, Nat.reduceLeDiff, Nat.reduceSubDiff, Nat.reduceBEq] <;> clear h) | ((first | refine callX_new (c1) rfl (by decide) ?_ | refine callY_new (c1) rfl ?_ | refine hE _ _ ret_ne ?_ | refine hE _ _ exit_ne ?_) <;> try simp (disch := first | omega | decide +kernel) only [el_ints, el_intss, el_steps, wrap_of, Int.toNat_natCast, toNat_pred, Int.toNat_zero, Nat.sub_zero, List.drop_zero, ← List.map_take, ← List.map_drop, D.sst, D.ints, hk, hkt, hk1, hyr, hd, List.map_cons, go_sem, Nat.reduceEqDiff, Nat.reduceLT, Nat.reduceAdd, Nat.reduceMul, Nat.reduceSub, ↓reduceIte, reduceCtorEq, Nat.reduceLeDiff, Nat.reduceSubDiff, Nat.reduceBEq]) | (refine hN _ ?_ ?_ (Wk.auto (by simp [extraK, lk, killL, St.kill, wipeO, wipeS, AV.has, AV.hasL, AO.wipe, List.map_set, updSt, insL, dropS, ins]) (by simp [extraK, lk, killL, St.kill, wipeO, wipeS, AV.has, AV.hasL, AO.wipe, List.map_set, updSt, insL, dropS, ins]))) | (with_reducible refine And.intro ?_ ?_) | (with_reducible omega) | (exact ok_ints) | (exact cells_ints) | (exact no_mem) | (with_reducible exact plain_ints) | (refine le_maxLen ?_; omega) | (refine List.forall_mem_cons.2 ⟨?_, ?_⟩) | (simp only [go_sem, List.length_cons, List.length_nil, Nat.reduceAdd, Nat.reduceLT, Nat.zero_lt_succ, and_self, List.mem_cons, List.not_mem_nil, or_false, forall_eq]; done)))
      all_goals (first | exact cells_intss | exact ok_intss | exact ok_ints1 | (exact ret_s3 [77] rfl rfl rfl) | (exact ret_s3 [77, 85] rfl rfl rfl) | trace_state)
    · rw [show decide (s.b = 0 ∧ s.p = 0) = false by simp [hb]]
      refine Ctr.ofK (n := 146) (rs := [.tmp 6, .tmp 7, .tmp 8]) Tryz.func61 rfl rfl Tryz.ntmps61 rfl rfl (by kernel_rfl) Tryz.checked.mixed ?_; refine Ok.ends ?_; refine Awp.cut ?_
      simp (disch := first | omega | decide +kernel) only [D.sst, el_ints, el_intss, el_steps, wrap_of, Int.toNat_natCast, toNat_pred, Int.toNat_zero, Nat.sub_zero, List.drop_zero, ← List.map_take, ← List.map_drop, go_sem, Nat.reduceEqDiff, Nat.reduceLT, Nat.reduceAdd, Nat.reduceMul, Nat.reduceSub, ↓reduceIte, reduceCtorEq, Nat.reduceLeDiff, Nat.reduceSubDiff, Nat.reduceBEq]
      refine ⟨_, (Wk.bfz 3 (.agg [.int .i64 v, .slice (cs.map D.ints)]) rfl rfl).trans (Wk.bfz 5 (D.sst s) rfl rfl), ?_⟩
      simp (disch := first | omega | decide +kernel) only [bfzS, bfzO, AV.bfz, AV.bfzL, AO.bfz, D.sst, hk, hkt, hk1, hyr, hd, List.map_cons, el_ints, el_intss, el_steps, wrap_of, Int.toNat_natCast, toNat_pred, Int.toNat_zero, Nat.sub_zero, List.drop_zero, ← List.map_take, ← List.map_drop, go_sem, Nat.reduceEqDiff, Nat.reduceLT, Nat.reduceAdd, Nat.reduceMul, Nat.reduceSub, ↓reduceIte, reduceCtorEq, Nat.reduceLeDiff, Nat.reduceSubDiff, Nat.reduceBEq]
      (repeat' (first | (refine gsel_split (fun h => ?_) (fun h => ?_) <;> (have h' := h) <;> (try simp only [decide_eq_true_eq, decide_eq_false_iff_not, Bool.not_eq_true', Bool.not_eq_false', bne_iff_ne, ne_eq, beq_iff_eq, bne_eq_false_iff_eq, beq_eq_false_iff_ne, Int.ofNat_lt, Int.ofNat_le, Int.not_lt, Int.not_le, Decidable.not_not, Bool.and_eq_true, Bool.or_eq_true, Bool.or_eq_false_iff, gt_iff_lt, ge_iff_le] at h') <;> simp (disch := first | omega | decide +kernel) only [h, el_ints, el_intss, el_steps, wrap_of, Int.toNat_natCast, toNat_pred, Int.toNat_zero, Nat.sub_zero, List.drop_zero, ← List.map_take, ← List.map_drop, D.sst, D.ints, hk, hkt, hk1, hyr, hd, List.map_cons, go_sem, Nat.reduceEqDiff, Nat.reduceLT, Nat.reduceAdd, Nat.reduceMul, Nat.reduceSub, ↓reduceIte, reduceCtorEq, Nat.reduceLeDiff, Nat.reduceSubDiff, Nat.reduceBEq] <;> clear h) | ((first | refine callX_new (c1) rfl (by decide) ?_ | refine callY_new (c1) rfl ?_ | refine hE _ _ ret_ne ?_ | refine hE _ _ exit_ne ?_) <;> try simp (disch := first | omega | decide +kernel) only [el_ints, el_intss, el_steps, wrap_of, Int.toNat_natCast, toNat_pred, Int.toNat_zero, Nat.sub_zero, List.drop_zero, ← List.map_take, ← List.map_drop, D.sst, D.ints, hk, hkt, hk1, hyr, hd, List.map_cons, go_sem, Nat.reduceEqDiff, Nat.reduceLT, Nat.reduceAdd, Nat.reduceMul, Nat.reduceSub, ↓reduceIte, reduceCtorEq, Nat.reduceLeDiff, Nat.reduceSubDiff, Nat.reduceBEq]) | (refine hN _ ?_ ?_ (Wk.auto (by simp [extraK, lk, killL, St.kill, wipeO, wipeS, AV.has, AV.hasL, AO.wipe, List.map_set, updSt, insL, dropS, ins]) (by simp [extraK, lk, killL, St.kill, wipeO, wipeS, AV.has, AV.hasL, AO.wipe, List.map_set, updSt, insL, dropS, ins]))) | (with_reducible refine And.intro ?_ ?_) | (with_reducible omega) | (exact ok_ints) | (exact cells_ints) | (exact no_mem) | (with_reducible exact plain_ints) | (refine le_maxLen ?_; omega) | (refine List.forall_mem_cons.2 ⟨?_, ?_⟩) | (simp only [go_sem, List.length_cons, List.length_nil, Nat.reduceAdd, Nat.reduceLT, Nat.zero_lt_succ, and_self, List.mem_cons, List.not_mem_nil, or_false, forall_eq]; done)))
      all_goals (first | exact cells_intss | exact ok_intss | exact ok_ints1 | (exact ret_s3 [77] rfl rfl rfl) | (exact ret_s3 [77, 85] rfl rfl rfl) | trace_state)
end
end Abs.Y
