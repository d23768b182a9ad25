/- What functions of this program compute, as contracts over plain data, with what the proofs need of them. No condition. -/
import Derived.Test.YticigmfmodhfdaaT11
set_option linter.all false
namespace Abs.Y
open Go Go.Proofs Abs
set_option maxRecDepth 100000

/-! ### What a needed step uses is needed -/
theorem markF_true {ps : List Int} {q : Nat} : ∀ {l : List Bool}, l.getD q false = true → (markF l ps).getD q false = true := by
  induction ps with
  | nil => intro l h; exact h
  | cons p r ih =>
    intro l h
    simp only [markF, List.foldl_cons] at *
    refine ih ?_
    have hq : q < l.length := by
      rcases Nat.lt_or_ge q l.length with h2 | h2
      · exact h2
      · rw [List.getD_eq_getElem?_getD, List.getElem?_eq_none h2] at h; cases h
    rw [List.getD_eq_getElem?_getD, List.getElem?_set]
    split
    · rename_i e; simp [e, hq]
    · rw [← List.getD_eq_getElem?_getD]; exact h
theorem markF_mem {ps : List Int} {p : Int} (hp : p ∈ ps) : ∀ {l : List Bool}, p.toNat < l.length → (markF l ps).getD p.toNat false = true := by
  induction ps with
  | nil => cases hp
  | cons x r ih =>
    intro l hl
    rcases List.mem_cons.1 hp with e | h
    · subst e
      show (markF (l.set p.toNat true) r).getD p.toNat false = true
      refine markF_true ?_
      rw [List.getD_eq_getElem?_getD, List.getElem?_set]; simp [hl]
    · show (markF (l.set x.toNat true) r).getD p.toNat false = true
      exact ih h (by simpa using hl)
theorem rF_mono (ps : Nat → List Int) (n : Nat) (q k : Nat) (h : (rF ps n k).getD q false = true) : ∀ m, k ≤ m → (rF ps n m).getD q false = true := by
  intro m hm
  induction hm with
  | refl => exact h
  | step _ ih =>
    simp only [rF]
    split
    · exact markF_true ih
    · exact ih
theorem onE_uses {ps : Nat → List Int} {n : Nat} (hf : ∀ k, k < n → (∀ p ∈ ps k, 0 ≤ p ∧ p < k)) {q : Nat} (hq : q < n) (h : onE ps n q = true) {p : Int} (hp : p ∈ ps q) : onE ps n p.toNat = true := by
  have hpq := hf q hq p hp
  have e := onE_eq ps n hf (n - 1 - q) (by omega)
  rw [show n - 1 - (n - 1 - q) = q by omega, h] at e
  have h1 : (rF ps n (n - 1 - q + 1)).getD p.toNat false = true := by
    simp only [rF]
    rw [show n - 1 - (n - 1 - q) = q by omega, if_pos e]
    exact markF_mem hp (by rw [rF_len]; omega)
  have h2 := rF_mono ps n p.toNat _ h1 n (by omega)
  unfold onE onR
  rw [h2, Bool.or_true]
/-- The place of a needed step in the list. -/
theorem idx_rank {ps : Nat → List Int} {n p : Nat} (hp : p < n) (h : onE ps n p = true) : idxI (· == (p : Int)) (rI ps n) = (rT ps n p).length := by
  have hsplit : rI ps n = rT ps n p ++ (p : Int) :: ((List.range' (p + 1) (n - (p + 1))).filter (onE ps n)).map fun q : Nat => (q : Int) := by
    unfold rI rT
    have : List.range n = List.range p ++ p :: List.range' (p + 1) (n - (p + 1)) := by
      obtain ⟨r, rfl⟩ : ∃ r, n = p + 1 + r := ⟨n - (p + 1), by omega⟩
      rw [show p + 1 + r - (p + 1) = r by omega, List.range_eq_range', List.range_eq_range', show p + 1 + r = p + (1 + r) by omega, ← List.range'_append_1, Nat.zero_add, Nat.add_comm 1 r, List.range'_succ]
    rw [this, List.filter_append, List.map_append, List.filter_cons_of_pos h, List.map_cons]
  have hmem : ∀ x ∈ rT ps n p, x < (p : Int) := fun x hx => by
    obtain ⟨q, hq, rfl⟩ := List.mem_map.1 hx
    have := List.mem_range.1 (List.mem_filter.1 hq).1
    omega
  rw [hsplit]
  refine idxI_some (by simp) ?_ fun j hj => ?_
  · rw [List.getD_eq_getElem?_getD, List.getElem?_append_right (Nat.le_refl _)]; simp
  · rw [List.getD_eq_getElem?_getD, List.getElem?_append_left hj]
    have := hmem ((rT ps n p)[j]) (List.getElem_mem hj)
    simp [hj]
    omega
theorem bare_tail (xr : List Int) : ∀ x, x ∈ [].append (List.map D.cells (List.map (D.int .i64) xr)).flatten → x.bare = true := fun x hx => by
  have hx : x ∈ (List.map D.cells (List.map (D.int .i64) xr)).flatten := hx
  obtain ⟨l, hl, hx⟩ := List.mem_flatten.1 hx
  obtain ⟨d, hd, rfl⟩ := List.mem_map.1 hl
  obtain ⟨n, _, rfl⟩ := List.mem_map.1 hd
  simp only [D.cells, List.mem_cons, List.not_mem_nil, or_false] at hx
  subst hx; rfl
/-! ### The reference's list -/
set_option maxHeartbeats 16000000 in
theorem l16Trim_ok (st : List PSt) (h0 : 0 < st.length) (hl : st.length ≤ 1048576) (hx : ∀ j, (st.getD j PSt.z).q.co.length ≤ 1048576) (hf : ∀ k, k < st.length → FineP st k) :
    Ctr Try.prog 68 [.slice (st.map D.pst)] false (.sl 0) [(0, .dp (some (89, 6)) ((trimV st).map D.pst) none)] := by
  have hul : ∀ k, (useP (st.getD k PSt.z)).length ≤ 2 := fun k => useP_len _
  have e0 : (List.replicate st.length (D.bool false)).set (st.length - 1) (D.bool true) = (rG (fun k => useP (st.getD k PSt.z)) st.length 0).map .bool := by simp [rG, rF]
  have hel0 : el (List.replicate st.length (D.bool false)) (st.length - 1) = .bool false := by
    rw [el, List.getD_eq_getElem?_getD, List.getElem?_replicate, if_pos (by omega)]; rfl
  have hgl := rG_len (fun k => useP (st.getD k PSt.z)) st.length
  have hgs := rG_succ (fun k => useP (st.getD k PSt.z)) st.length
  have hts := rT_succ (fun k => useP (st.getD k PSt.z)) st.length
  have htl := rT_len (fun k => useP (st.getD k PSt.z)) st.length
  have hon := onE_get (fun k => useP (st.getD k PSt.z)) st.length
  have hou := fun {q} => @onE_uses (fun k => useP (st.getD k PSt.z)) st.length hf q
  have hid := fun {p} => @idx_rank (fun k => useP (st.getD k PSt.z)) st.length p
  have hkept : rT (fun k => useP (st.getD k PSt.z)) st.length st.length = rI (fun k => useP (st.getD k PSt.z)) st.length := rfl
  unfold trimV
  have hfu : ∀ k, k < st.length → ∀ p ∈ useP (st.getD k PSt.z), 0 ≤ p ∧ p < k := hf
  clear hf
  generalize hps : (fun k => useP (st.getD k PSt.z)) = ps at *
  have hpk : ∀ k, ps k = useP (st.getD k PSt.z) := fun k => by rw [← hps]
  generalize rI ps st.length = kept at *
  refine Ctr.of (n := 107) (rs := [.tmp 2]) Try.func68 rfl rfl Try.ntmps68 rfl rfl (by kernel_rfl) Try.checked.mixed ?_
  simp (disch := first | omega | decide +kernel) only [hel0, e0, go_sem, Nat.reduceEqDiff, Nat.reduceLT, Nat.reduceAdd, Nat.reduceMul, Nat.reduceSub, ↓reduceIte, reduceCtorEq, Nat.reduceLeDiff, Nat.reduceSubDiff, Nat.reduceBEq]
  refine ⟨by omega, ?_⟩
  (repeat' (first | (refine gsel_split (fun h => ?_) (fun h => ?_) <;> (have h' := h) <;> (try simp only [decide_eq_true_eq, decide_eq_false_iff_not, Bool.not_eq_true', Bool.not_eq_false', bne_iff_ne, ne_eq, beq_iff_eq, bne_eq_false_iff_eq, beq_eq_false_iff_ne, Int.ofNat_lt, Int.ofNat_le, Int.not_lt, Int.not_le, Decidable.not_not, Bool.and_eq_true, Bool.or_eq_true, Bool.or_eq_false_iff, gt_iff_lt, ge_iff_le] at h') <;> simp (disch := first | omega | decide +kernel) only [h, hel0, e0, go_sem, Nat.reduceEqDiff, Nat.reduceLT, Nat.reduceAdd, Nat.reduceMul, Nat.reduceSub, ↓reduceIte, reduceCtorEq, Nat.reduceLeDiff, Nat.reduceSubDiff, Nat.reduceBEq] <;> clear h) | ((first | refine hE _ _ ret_ne ?_ | refine hE _ _ exit_ne ?_) <;> try simp (disch := first | omega | decide +kernel) only [hel0, e0, go_sem, Nat.reduceEqDiff, Nat.reduceLT, Nat.reduceAdd, Nat.reduceMul, Nat.reduceSub, ↓reduceIte, reduceCtorEq, Nat.reduceLeDiff, Nat.reduceSubDiff, Nat.reduceBEq]) | (refine hN _ ?_ ?_ Wk.kk) | (with_reducible refine And.intro ?_ ?_) | (with_reducible omega) | (exact ok_ints) | (exact cells_ints) | (exact no_mem) | (with_reducible exact plain_ints) | (refine le_maxLen ?_; omega) | (refine List.forall_mem_cons.2 ⟨?_, ?_⟩) | (simp only [go_sem, Nat.reduceAdd, Nat.reduceLT, List.mem_cons, List.not_mem_nil, forall_eq]; done)))
  refine Ok.loopN [51, 50, 49, 48, 47, 46, 45, 44, 43, 42, 41, 40, 39, 38, 37, 36, 35, 34, 33, 32, 31, 30, 29, 28, 27, 26, 25, 7, 6, 5] (fun k _ => [(5, .d (.int .i64 ((st.length : Int) - 1 - (k : Nat))))]) (fun _ (cur : List Bool) => [(13, .arr 4 1 (List.map D.bool cur))]) st.length
    (fun k cur => cur = rG ps st.length k) (rG ps st.length 0) rfl (Wk.kk) ?_
  rintro R k cur hN0 hE0 hk hcu
  by_cases hlt : k < st.length
  · obtain ⟨q, hq⟩ : ∃ q, st.length - 1 - k = q := ⟨_, rfl⟩
    have hqi : (st.length : Int) - 1 - (k : Nat) = (q : Nat) := by omega
    have hqi2 : (st.length : Int) - 1 - ((k : Int) + 1) = (q : Int) - 1 := by omega
    have hS := hgs k hlt
    have hgk := hgl k
    rw [← hcu, hq] at hS
    rw [← hcu] at hgk
    have hqn : q < st.length := by omega
    have hfi := hfu q hqn
    have hp2 := hul q
    have hes : el (st.map D.pst) q = D.pst (st.getD q PSt.z) := el_pst hqn
    have c1 := l16Uses_ok (st.getD q PSt.z)
    clear hcu hfu hgs hts htl hon hou hid hul hx
    rw [hqi]
    generalize hsd : st.getD q PSt.z = s at *
    generalize useP s = us at *
    simp (disch := first | omega | decide +kernel) only [hes, go_sem, Nat.reduceEqDiff, Nat.reduceLT, Nat.reduceAdd, Nat.reduceMul, Nat.reduceSub, ↓reduceIte, reduceCtorEq, Nat.reduceLeDiff, Nat.reduceSubDiff, Nat.reduceBEq]
    (repeat' (first | (refine gsel_split (fun h => ?_) (fun h => ?_) <;> (have h' := h) <;> (try simp only [decide_eq_true_eq, decide_eq_false_iff_not, Bool.not_eq_true', Bool.not_eq_false', bne_iff_ne, ne_eq, beq_iff_eq, bne_eq_false_iff_eq, beq_eq_false_iff_ne, Int.ofNat_lt, Int.ofNat_le, Int.not_lt, Int.not_le, Decidable.not_not, Bool.and_eq_true, Bool.or_eq_true, Bool.or_eq_false_iff, gt_iff_lt, ge_iff_le] at h') <;> first | (exfalso; omega) | (simp (disch := first | omega | decide +kernel) only [h, hes, D.ints, go_sem, Nat.reduceEqDiff, Nat.reduceLT, Nat.reduceAdd, Nat.reduceMul, Nat.reduceSub, ↓reduceIte, reduceCtorEq, Nat.reduceLeDiff, Nat.reduceSubDiff, Nat.reduceBEq] <;> clear h)) | ((first | refine callX_shared (c1) rfl (by decide) ?_ | refine callY_shared (c1) rfl ?_ | refine hE _ _ ret_ne ?_ | refine hE _ _ exit_ne ?_) <;> try simp (disch := first | omega | decide +kernel) only [hes, D.ints, go_sem, Nat.reduceEqDiff, Nat.reduceLT, Nat.reduceAdd, Nat.reduceMul, Nat.reduceSub, ↓reduceIte, reduceCtorEq, Nat.reduceLeDiff, Nat.reduceSubDiff, Nat.reduceBEq]) | (refine hN _ ?_ ?_ Wk.kk) | (with_reducible refine And.intro ?_ ?_) | (with_reducible omega) | (exact ok_ints) | (exact cells_ints) | (exact no_mem) | (with_reducible exact plain_ints) | (refine le_maxLen ?_; omega) | (refine List.forall_mem_cons.2 ⟨?_, ?_⟩) | (simp only [go_sem, Nat.reduceAdd, Nat.reduceLT, List.mem_cons, List.not_mem_nil, forall_eq]; done)))
    refine Ok.loopN [51, 50, 49, 48, 47, 46, 45, 44, 43, 42, 41, 40, 39, 38, 37, 36, 35, 34, 7] (fun j _ => [(7, .d (.int .i64 (j : Nat)))]) (fun _ (l : List Bool) => [(13, .arr 4 1 (List.map D.bool l))]) us.length
      (fun j l => l.length = st.length ∧ l.getD q false = cur.getD q false ∧ (cur.getD q false = true → markF l (us.drop j) = markF cur us) ∧ (cur.getD q false = false → l = cur)) cur ⟨hgk, rfl, fun _ => rfl, fun _ => rfl⟩ (Wk.kk) ?_
    rintro R2 j l hN hE hj ⟨hl1, hl2, hl3, hl4⟩
    have hel : el (List.map D.bool l) q = .bool (l.getD q false) := el_map (f := D.bool) false (by omega)
    rw [hl2] at hel
    by_cases hjt : j < us.length
    · have hr := hfi _ (getD_mem (z := (0 : Int)) hjt)
      rw [drop_cons (0 : Int) us j hjt] at hl3
      generalize hk2 : us.getD j 0 = p at *
      have hel2 : el (List.map D.bool l) p.toNat = .bool (l.getD p.toNat false) := el_map (f := D.bool) false (by omega)
      cases hc : cur.getD q false with
      | true =>
        rw [hc] at hel
        simp (disch := first | omega | decide +kernel) only [hk2, hel, go_sem, Nat.reduceEqDiff, Nat.reduceLT, Nat.reduceAdd, Nat.reduceMul, Nat.reduceSub, ↓reduceIte, reduceCtorEq, Nat.reduceLeDiff, Nat.reduceSubDiff, Nat.reduceBEq]
        (repeat' (first | (refine gsel_split (fun h => ?_) (fun h => ?_) <;> (have h' := h) <;> (try simp only [decide_eq_true_eq, decide_eq_false_iff_not, Bool.not_eq_true', Bool.not_eq_false', bne_iff_ne, ne_eq, beq_iff_eq, bne_eq_false_iff_eq, beq_eq_false_iff_ne, Int.ofNat_lt, Int.ofNat_le, Int.not_lt, Int.not_le, Decidable.not_not, Bool.and_eq_true, Bool.or_eq_true, Bool.or_eq_false_iff, gt_iff_lt, ge_iff_le] at h') <;> first | (exfalso; omega) | (simp (disch := first | omega | decide +kernel) only [h, hk2, hel, hel2, go_sem, Nat.reduceEqDiff, Nat.reduceLT, Nat.reduceAdd, Nat.reduceMul, Nat.reduceSub, ↓reduceIte, reduceCtorEq, Nat.reduceLeDiff, Nat.reduceSubDiff, Nat.reduceBEq] <;> clear h)) | ((first | refine hE _ _ ret_ne ?_ | refine hE _ _ exit_ne ?_) <;> try simp (disch := first | omega | decide +kernel) only [hk2, hel, hel2, go_sem, Nat.reduceEqDiff, Nat.reduceLT, Nat.reduceAdd, Nat.reduceMul, Nat.reduceSub, ↓reduceIte, reduceCtorEq, Nat.reduceLeDiff, Nat.reduceSubDiff, Nat.reduceBEq]) | (refine hN _ ?_ ?_ Wk.kk) | (with_reducible refine And.intro ?_ ?_) | (with_reducible omega) | (exact ok_ints) | (exact cells_ints) | (exact no_mem) | (with_reducible exact plain_ints) | (refine le_maxLen ?_; omega) | (refine List.forall_mem_cons.2 ⟨?_, ?_⟩) | (simp only [go_sem, Nat.reduceAdd, Nat.reduceLT, List.mem_cons, List.not_mem_nil, forall_eq]; done)))
        refine hN (l.set p.toNat true) _ hjt ⟨by simp [hl1], ?_, fun _ => hl3 hc, fun h => by rw [hc] at h; cases h⟩ (Wk.auto (by simp [extraK, lk, killL, St.kill, wipeO, wipeS, AV.has, AV.hasL, AO.wipe, List.map_set, updSt, insL, dropS, ins, ]) (by simp [extraK, lk, killL, St.kill, wipeO, wipeS, AV.has, AV.hasL, AO.wipe, List.map_set, updSt, insL, dropS, ins, ]))
        rw [set_getDz false _ _ _ _ (by omega), if_neg (by omega)]; exact hl2
      | false =>
        rw [hc] at hel
        simp (disch := first | omega | decide +kernel) only [hk2, hel, go_sem, Nat.reduceEqDiff, Nat.reduceLT, Nat.reduceAdd, Nat.reduceMul, Nat.reduceSub, ↓reduceIte, reduceCtorEq, Nat.reduceLeDiff, Nat.reduceSubDiff, Nat.reduceBEq]
        (repeat' (first | (refine gsel_split (fun h => ?_) (fun h => ?_) <;> (have h' := h) <;> (try simp only [decide_eq_true_eq, decide_eq_false_iff_not, Bool.not_eq_true', Bool.not_eq_false', bne_iff_ne, ne_eq, beq_iff_eq, bne_eq_false_iff_eq, beq_eq_false_iff_ne, Int.ofNat_lt, Int.ofNat_le, Int.not_lt, Int.not_le, Decidable.not_not, Bool.and_eq_true, Bool.or_eq_true, Bool.or_eq_false_iff, gt_iff_lt, ge_iff_le] at h') <;> first | (exfalso; omega) | (simp (disch := first | omega | decide +kernel) only [h, hk2, hel, hel2, go_sem, Nat.reduceEqDiff, Nat.reduceLT, Nat.reduceAdd, Nat.reduceMul, Nat.reduceSub, ↓reduceIte, reduceCtorEq, Nat.reduceLeDiff, Nat.reduceSubDiff, Nat.reduceBEq] <;> clear h)) | ((first | refine hE _ _ ret_ne ?_ | refine hE _ _ exit_ne ?_) <;> try simp (disch := first | omega | decide +kernel) only [hk2, hel, hel2, go_sem, Nat.reduceEqDiff, Nat.reduceLT, Nat.reduceAdd, Nat.reduceMul, Nat.reduceSub, ↓reduceIte, reduceCtorEq, Nat.reduceLeDiff, Nat.reduceSubDiff, Nat.reduceBEq]) | (refine hN _ ?_ ?_ Wk.kk) | (with_reducible refine And.intro ?_ ?_) | (with_reducible omega) | (exact ok_ints) | (exact cells_ints) | (exact no_mem) | (with_reducible exact plain_ints) | (refine le_maxLen ?_; omega) | (refine List.forall_mem_cons.2 ⟨?_, ?_⟩) | (simp only [go_sem, Nat.reduceAdd, Nat.reduceLT, List.mem_cons, List.not_mem_nil, forall_eq]; done)))
        refine hN0 l _ hlt ?_ (Wk.auto (by simp [extraK, lk, killL, St.kill, wipeO, wipeS, AV.has, AV.hasL, AO.wipe, List.map_set, updSt, insL, dropS, ins, hqi2]) (by simp [extraK, lk, killL, St.kill, wipeO, wipeS, AV.has, AV.hasL, AO.wipe, List.map_set, updSt, insL, dropS, ins, hqi2]))
        rw [hS, hc, if_neg (by decide)]; exact hl4 hc
    · rw [List.drop_eq_nil_of_le (by omega)] at hl3
      simp (disch := first | omega | decide +kernel) only [go_sem, Nat.reduceEqDiff, Nat.reduceLT, Nat.reduceAdd, Nat.reduceMul, Nat.reduceSub, ↓reduceIte, reduceCtorEq, Nat.reduceLeDiff, Nat.reduceSubDiff, Nat.reduceBEq]
      (repeat' (first | (refine gsel_split (fun h => ?_) (fun h => ?_) <;> (have h' := h) <;> (try simp only [decide_eq_true_eq, decide_eq_false_iff_not, Bool.not_eq_true', Bool.not_eq_false', bne_iff_ne, ne_eq, beq_iff_eq, bne_eq_false_iff_eq, beq_eq_false_iff_ne, Int.ofNat_lt, Int.ofNat_le, Int.not_lt, Int.not_le, Decidable.not_not, Bool.and_eq_true, Bool.or_eq_true, Bool.or_eq_false_iff, gt_iff_lt, ge_iff_le] at h') <;> first | (exfalso; omega) | (simp (disch := first | omega | decide +kernel) only [h, hel, go_sem, Nat.reduceEqDiff, Nat.reduceLT, Nat.reduceAdd, Nat.reduceMul, Nat.reduceSub, ↓reduceIte, reduceCtorEq, Nat.reduceLeDiff, Nat.reduceSubDiff, Nat.reduceBEq] <;> clear h)) | ((first | refine hE _ _ ret_ne ?_ | refine hE _ _ exit_ne ?_) <;> try simp (disch := first | omega | decide +kernel) only [hel, go_sem, Nat.reduceEqDiff, Nat.reduceLT, Nat.reduceAdd, Nat.reduceMul, Nat.reduceSub, ↓reduceIte, reduceCtorEq, Nat.reduceLeDiff, Nat.reduceSubDiff, Nat.reduceBEq]) | (refine hN _ ?_ ?_ Wk.kk) | (with_reducible refine And.intro ?_ ?_) | (with_reducible omega) | (exact ok_ints) | (exact cells_ints) | (exact no_mem) | (with_reducible exact plain_ints) | (refine le_maxLen ?_; omega) | (refine List.forall_mem_cons.2 ⟨?_, ?_⟩) | (simp only [go_sem, Nat.reduceAdd, Nat.reduceLT, List.mem_cons, List.not_mem_nil, forall_eq]; done)))
      refine hN0 l _ hlt ?_ (Wk.auto (by simp [extraK, lk, killL, St.kill, wipeO, wipeS, AV.has, AV.hasL, AO.wipe, List.map_set, updSt, insL, dropS, ins, hqi2]) (by simp [extraK, lk, killL, St.kill, wipeO, wipeS, AV.has, AV.hasL, AO.wipe, List.map_set, updSt, insL, dropS, ins, hqi2]))
      rw [hS]
      cases hc : cur.getD q false with
      | true => rw [if_pos rfl]; exact hl3 hc
      | false => rw [if_neg (by decide)]; exact hl4 hc
  · obtain rfl : k = st.length := by omega
    have hqi : (st.length : Int) - 1 - (st.length : Nat) = -1 := by omega
    rw [hqi]
    have hE := hE0
    subst hcu
    have hgln := hgl st.length
    clear hgs e0 hel0 hul hN0 hgl
    rw [show List.replicate st.length (D.int .i64 0) = (List.replicate st.length (0 : Int)).map (D.int .i64) by simp]
    simp (disch := first | omega | decide +kernel) only [go_sem, Nat.reduceEqDiff, Nat.reduceLT, Nat.reduceAdd, Nat.reduceMul, Nat.reduceSub, ↓reduceIte, reduceCtorEq, Nat.reduceLeDiff, Nat.reduceSubDiff, Nat.reduceBEq]
    (repeat' (first | (refine gsel_split (fun h => ?_) (fun h => ?_) <;> (have h' := h) <;> (try simp only [decide_eq_true_eq, decide_eq_false_iff_not, Bool.not_eq_true', Bool.not_eq_false', bne_iff_ne, ne_eq, beq_iff_eq, bne_eq_false_iff_eq, beq_eq_false_iff_ne, Int.ofNat_lt, Int.ofNat_le, Int.not_lt, Int.not_le, Decidable.not_not, Bool.and_eq_true, Bool.or_eq_true, Bool.or_eq_false_iff, gt_iff_lt, ge_iff_le] at h') <;> first | (exfalso; omega) | (simp (disch := first | omega | decide +kernel) only [h, go_sem, Nat.reduceEqDiff, Nat.reduceLT, Nat.reduceAdd, Nat.reduceMul, Nat.reduceSub, ↓reduceIte, reduceCtorEq, Nat.reduceLeDiff, Nat.reduceSubDiff, Nat.reduceBEq] <;> clear h)) | ((first | refine hE _ _ ret_ne ?_ | refine hE _ _ exit_ne ?_) <;> try simp (disch := first | omega | decide +kernel) only [go_sem, Nat.reduceEqDiff, Nat.reduceLT, Nat.reduceAdd, Nat.reduceMul, Nat.reduceSub, ↓reduceIte, reduceCtorEq, Nat.reduceLeDiff, Nat.reduceSubDiff, Nat.reduceBEq]) | (refine hN _ ?_ ?_ Wk.kk) | (with_reducible refine And.intro ?_ ?_) | (with_reducible omega) | (exact ok_ints) | (exact cells_ints) | (exact no_mem) | (with_reducible exact plain_ints) | (refine le_maxLen ?_; omega) | (refine List.forall_mem_cons.2 ⟨?_, ?_⟩) | (simp only [go_sem, Nat.reduceAdd, Nat.reduceLT, List.mem_cons, List.not_mem_nil, forall_eq]; done)))
    refine Ok.loopN [105, 104, 103, 102, 101, 100, 99, 98, 97, 96, 95, 94, 93, 92, 91, 90, 89, 88, 87, 86, 85, 84, 83, 82, 81, 80, 79, 78, 77, 76, 75, 74, 73, 72, 71, 70, 69, 68, 67, 66, 65, 64, 63, 62, 61, 60, 59, 58, 57, 56, 55, 54, 53, 52, 10, 9, 8] (fun i _ => [(9, .d (.int .i64 (i : Nat))), (8, .sl 52)]) (fun _ (p : List PSt × List Int) => [(52, .dp (some (89, 6)) (List.map D.pst p.1) none), (16, .arr 3 1 (List.map (D.int .i64) p.2))]) st.length
      (fun i p => p.1 = (rT ps st.length i).map (fun v => newS kept (st.getD v.toNat PSt.z)) ∧ p.2.length = st.length ∧ ∀ j, j < i → onE ps st.length j = true → p.2.getD j 0 = ((rT ps st.length j).length : Nat)) ([], List.replicate st.length 0) ⟨by simp [rT], by simp, by simp⟩ ((Wk.deep 52 rfl (by simp [flat])).trans (Wk.kk)) ?_
    clear hE hE0
    rintro R2 i ⟨out, to⟩ hN hE hi ⟨hI1, hI2, hI3⟩
    simp only at hI1 hI2 hI3
    have hol : out.length = (rT ps st.length i).length := by rw [hI1]; simp
    have hti := htl i
    by_cases hlt : i < st.length
    · have hoi := hon i hlt
      have htsi := hts i
      have hfi := hfu i hlt
      have hes : el (st.map D.pst) i = D.pst (st.getD i PSt.z) := el_pst hlt
      have hxs := hx i
      cases hno : onE ps st.length i with
      | false =>
        rw [hno] at hoi htsi
        rw [if_neg (by decide)] at htsi
        have hkeep : ∀ j, j < i + 1 → onE ps st.length j = true → to.getD j 0 = ((rT ps st.length j).length : Nat) := fun j hj hj2 => by
          by_cases e : j = i
          · rw [e, hno] at hj2; cases hj2
          · exact hI3 j (by omega) hj2
        clear hid hou hts hfu hon htl
        simp (disch := first | omega | decide +kernel) only [hoi, go_sem, Nat.reduceEqDiff, Nat.reduceLT, Nat.reduceAdd, Nat.reduceMul, Nat.reduceSub, ↓reduceIte, reduceCtorEq, Nat.reduceLeDiff, Nat.reduceSubDiff, Nat.reduceBEq]
        (repeat' (first | (refine gsel_split (fun h => ?_) (fun h => ?_) <;> (have h' := h) <;> (try simp only [decide_eq_true_eq, decide_eq_false_iff_not, Bool.not_eq_true', Bool.not_eq_false', bne_iff_ne, ne_eq, beq_iff_eq, bne_eq_false_iff_eq, beq_eq_false_iff_ne, Int.ofNat_lt, Int.ofNat_le, Int.not_lt, Int.not_le, Decidable.not_not, Bool.and_eq_true, Bool.or_eq_true, Bool.or_eq_false_iff, gt_iff_lt, ge_iff_le] at h') <;> first | (exfalso; omega) | (simp (disch := first | omega | decide +kernel) only [h, hoi, go_sem, Nat.reduceEqDiff, Nat.reduceLT, Nat.reduceAdd, Nat.reduceMul, Nat.reduceSub, ↓reduceIte, reduceCtorEq, Nat.reduceLeDiff, Nat.reduceSubDiff, Nat.reduceBEq] <;> clear h)) | ((first | refine hE _ _ ret_ne ?_ | refine hE _ _ exit_ne ?_) <;> try simp (disch := first | omega | decide +kernel) only [hoi, go_sem, Nat.reduceEqDiff, Nat.reduceLT, Nat.reduceAdd, Nat.reduceMul, Nat.reduceSub, ↓reduceIte, reduceCtorEq, Nat.reduceLeDiff, Nat.reduceSubDiff, Nat.reduceBEq]) | (refine hN _ ?_ ?_ Wk.kk) | (with_reducible refine And.intro ?_ ?_) | (with_reducible omega) | (exact ok_ints) | (exact cells_ints) | (exact no_mem) | (with_reducible exact plain_ints) | (refine le_maxLen ?_; omega) | (refine List.forall_mem_cons.2 ⟨?_, ?_⟩) | (simp only [go_sem, Nat.reduceAdd, Nat.reduceLT, List.mem_cons, List.not_mem_nil, forall_eq]; done)))
        all_goals (first | omega | (refine hN (out, to) _ hlt ⟨by rw [htsi]; exact hI1, hI2, hkeep⟩ (Wk.auto (by simp [extraK, lk, killL, St.kill, wipeO, wipeS, AV.has, AV.hasL, AO.wipe, List.map_set, updSt, insL, dropS, ins, ]) (by simp [extraK, lk, killL, St.kill, wipeO, wipeS, AV.has, AV.hasL, AO.wipe, List.map_set, updSt, insL, dropS, ins, ])); done) | trace_state)
      | true =>
        rw [hno] at hoi htsi
        rw [if_pos rfl] at htsi
        have hsucc : (rT ps st.length (i + 1)).map (fun v => newS kept (st.getD v.toNat PSt.z)) = out ++ [newS kept (st.getD i PSt.z)] := by
          rw [hI1, htsi, List.map_append]; rfl
        have huse : ∀ p ∈ useP (st.getD i PSt.z), (0 ≤ p ∧ p < (i : Int)) ∧ idxI (· == p) kept = to.getD p.toNat 0 := fun p hp => by
          have h1 := hfi p hp
          have h2 := hou hlt hno hp
          refine ⟨h1, ?_⟩
          rw [hI3 p.toNat (by omega) h2, ← hid (by omega) h2, show ((p.toNat : Nat) : Int) = p by omega]
        have hset : ∀ j, j < i + 1 → onE ps st.length j = true → (to.set i (out.length : Int)).getD j 0 = ((rT ps st.length j).length : Nat) := fun j hj hj2 => by
          rw [set_getDz (0 : Int) _ _ _ _ (by omega)]
          split
          · rename_i e; subst e; rw [hol]
          · exact hI3 j (by omega) hj2
        clear hid hou hts hfu hon htl hI3 hI1 hfi hx
        generalize st.getD i PSt.z = s at *
        obtain ⟨⟨co, bd⟩, ru, l, r, n⟩ := s
        simp only at hxs
        by_cases h4 : ru = 4
        · rw [newS_4 (s := ⟨⟨co, bd⟩, ru, l, r, n⟩) h4] at hsucc
          simp only at hsucc
          obtain ⟨hl1, hl2⟩ := huse l (by unfold useP; rw [if_pos h4]; simp)
          obtain ⟨hr1, hr2⟩ := huse r (by unfold useP; rw [if_pos h4]; simp)
          rw [hl2, hr2] at hsucc
          have c2 := l16Uses_sl ⟨⟨co, bd⟩, ru, l, r, n⟩
          unfold useP at c2
          rw [if_pos h4] at c2
          try simp only at c2
          clear huse
          cases co with
          | nil =>
            simp (disch := first | omega | decide +kernel) only [hoi, hes, D.ints, go_sem, Nat.reduceEqDiff, Nat.reduceLT, Nat.reduceAdd, Nat.reduceMul, Nat.reduceSub, ↓reduceIte, reduceCtorEq, Nat.reduceLeDiff, Nat.reduceSubDiff, Nat.reduceBEq]
            (repeat' (first | (refine gsel_split (fun h => ?_) (fun h => ?_) <;> (have h' := h) <;> (try simp only [decide_eq_true_eq, decide_eq_false_iff_not, Bool.not_eq_true', Bool.not_eq_false', bne_iff_ne, ne_eq, beq_iff_eq, bne_eq_false_iff_eq, beq_eq_false_iff_ne, Int.ofNat_lt, Int.ofNat_le, Int.not_lt, Int.not_le, Decidable.not_not, Bool.and_eq_true, Bool.or_eq_true, Bool.or_eq_false_iff, gt_iff_lt, ge_iff_le] at h') <;> first | (exfalso; omega) | (simp (disch := first | omega | decide +kernel) only [h, hoi, hes, D.ints, go_sem, Nat.reduceEqDiff, Nat.reduceLT, Nat.reduceAdd, Nat.reduceMul, Nat.reduceSub, ↓reduceIte, reduceCtorEq, Nat.reduceLeDiff, Nat.reduceSubDiff, Nat.reduceBEq] <;> clear h)) | ((first | refine callX_new (c2) rfl (by decide) ?_ | refine callY_new (c2) rfl ?_ | refine hE _ _ ret_ne ?_ | refine hE _ _ exit_ne ?_) <;> try simp (disch := first | omega | decide +kernel) only [hoi, hes, D.ints, go_sem, Nat.reduceEqDiff, Nat.reduceLT, Nat.reduceAdd, Nat.reduceMul, Nat.reduceSub, ↓reduceIte, reduceCtorEq, Nat.reduceLeDiff, Nat.reduceSubDiff, Nat.reduceBEq]) | (refine hN _ ?_ ?_ Wk.kk) | (with_reducible refine And.intro ?_ ?_) | (with_reducible omega) | (exact ok_ints) | (exact cells_ints) | (exact no_mem) | (with_reducible exact plain_ints) | (refine le_maxLen ?_; omega) | (refine List.forall_mem_cons.2 ⟨?_, ?_⟩) | (simp only [go_sem, Nat.reduceAdd, Nat.reduceLT, List.mem_cons, List.not_mem_nil, forall_eq]; done)))
            all_goals (first | omega | exact bare_tail _ | (refine hN (out ++ [⟨⟨[], bd⟩, ru, to.getD l.toNat 0, to.getD r.toNat 0, n⟩], to.set i out.length) _ hlt ⟨hsucc.symm, by simp [hI2], hset⟩ (Wk.auto (by simp [extraK, lk, killL, St.kill, wipeO, wipeS, AV.has, AV.hasL, AO.wipe, List.map_set, updSt, insL, dropS, ins, D.ints]) (by simp [extraK, lk, killL, St.kill, wipeO, wipeS, AV.has, AV.hasL, AO.wipe, List.map_set, updSt, insL, dropS, ins, D.ints])); done) | trace_state)
          | cons x xr =>
            simp only [List.length_cons] at hxs
            simp (disch := first | omega | decide +kernel) only [hoi, hes, D.ints, go_sem, Nat.reduceEqDiff, Nat.reduceLT, Nat.reduceAdd, Nat.reduceMul, Nat.reduceSub, ↓reduceIte, reduceCtorEq, Nat.reduceLeDiff, Nat.reduceSubDiff, Nat.reduceBEq]
            (repeat' (first | (refine gsel_split (fun h => ?_) (fun h => ?_) <;> (have h' := h) <;> (try simp only [decide_eq_true_eq, decide_eq_false_iff_not, Bool.not_eq_true', Bool.not_eq_false', bne_iff_ne, ne_eq, beq_iff_eq, bne_eq_false_iff_eq, beq_eq_false_iff_ne, Int.ofNat_lt, Int.ofNat_le, Int.not_lt, Int.not_le, Decidable.not_not, Bool.and_eq_true, Bool.or_eq_true, Bool.or_eq_false_iff, gt_iff_lt, ge_iff_le] at h') <;> first | (exfalso; omega) | (simp (disch := first | omega | decide +kernel) only [h, hoi, hes, D.ints, go_sem, Nat.reduceEqDiff, Nat.reduceLT, Nat.reduceAdd, Nat.reduceMul, Nat.reduceSub, ↓reduceIte, reduceCtorEq, Nat.reduceLeDiff, Nat.reduceSubDiff, Nat.reduceBEq] <;> clear h)) | ((first | refine callX_new (c2) rfl (by decide) ?_ | refine callY_new (c2) rfl ?_ | refine hE _ _ ret_ne ?_ | refine hE _ _ exit_ne ?_) <;> try simp (disch := first | omega | decide +kernel) only [hoi, hes, D.ints, go_sem, Nat.reduceEqDiff, Nat.reduceLT, Nat.reduceAdd, Nat.reduceMul, Nat.reduceSub, ↓reduceIte, reduceCtorEq, Nat.reduceLeDiff, Nat.reduceSubDiff, Nat.reduceBEq]) | (refine hN _ ?_ ?_ Wk.kk) | (with_reducible refine And.intro ?_ ?_) | (with_reducible omega) | (exact ok_ints) | (exact cells_ints) | (exact no_mem) | (with_reducible exact plain_ints) | (refine le_maxLen ?_; omega) | (refine List.forall_mem_cons.2 ⟨?_, ?_⟩) | (simp only [go_sem, Nat.reduceAdd, Nat.reduceLT, List.mem_cons, List.not_mem_nil, forall_eq]; done)))
            all_goals (first | omega | exact bare_tail _ | (refine hN (out ++ [⟨⟨x :: xr, bd⟩, ru, to.getD l.toNat 0, to.getD r.toNat 0, n⟩], to.set i out.length) _ hlt ⟨hsucc.symm, by simp [hI2], hset⟩ (Wk.auto (by simp [extraK, lk, killL, St.kill, wipeO, wipeS, AV.has, AV.hasL, AO.wipe, List.map_set, updSt, insL, dropS, ins, D.ints]) (by simp [extraK, lk, killL, St.kill, wipeO, wipeS, AV.has, AV.hasL, AO.wipe, List.map_set, updSt, insL, dropS, ins, D.ints])); done) | trace_state)
        · by_cases h5 : ru = 5 ∨ ru = 6
          · rw [newS_5 (s := ⟨⟨co, bd⟩, ru, l, r, n⟩) h4 h5] at hsucc
            simp only at hsucc
            obtain ⟨hl1, hl2⟩ := huse l (by unfold useP; rw [if_neg h4, if_pos h5]; simp)
            rw [hl2] at hsucc
            have c2 := l16Uses_sl ⟨⟨co, bd⟩, ru, l, r, n⟩
            unfold useP at c2
            rw [if_neg h4, if_pos h5] at c2
            try simp only at c2
            clear huse
            cases co with
            | nil =>
              simp (disch := first | omega | decide +kernel) only [hoi, hes, D.ints, go_sem, Nat.reduceEqDiff, Nat.reduceLT, Nat.reduceAdd, Nat.reduceMul, Nat.reduceSub, ↓reduceIte, reduceCtorEq, Nat.reduceLeDiff, Nat.reduceSubDiff, Nat.reduceBEq]
              (repeat' (first | (refine gsel_split (fun h => ?_) (fun h => ?_) <;> (have h' := h) <;> (try simp only [decide_eq_true_eq, decide_eq_false_iff_not, Bool.not_eq_true', Bool.not_eq_false', bne_iff_ne, ne_eq, beq_iff_eq, bne_eq_false_iff_eq, beq_eq_false_iff_ne, Int.ofNat_lt, Int.ofNat_le, Int.not_lt, Int.not_le, Decidable.not_not, Bool.and_eq_true, Bool.or_eq_true, Bool.or_eq_false_iff, gt_iff_lt, ge_iff_le] at h') <;> first | (exfalso; omega) | (simp (disch := first | omega | decide +kernel) only [h, hoi, hes, D.ints, go_sem, Nat.reduceEqDiff, Nat.reduceLT, Nat.reduceAdd, Nat.reduceMul, Nat.reduceSub, ↓reduceIte, reduceCtorEq, Nat.reduceLeDiff, Nat.reduceSubDiff, Nat.reduceBEq] <;> clear h)) | ((first | refine callX_new (c2) rfl (by decide) ?_ | refine callY_new (c2) rfl ?_ | refine hE _ _ ret_ne ?_ | refine hE _ _ exit_ne ?_) <;> try simp (disch := first | omega | decide +kernel) only [hoi, hes, D.ints, go_sem, Nat.reduceEqDiff, Nat.reduceLT, Nat.reduceAdd, Nat.reduceMul, Nat.reduceSub, ↓reduceIte, reduceCtorEq, Nat.reduceLeDiff, Nat.reduceSubDiff, Nat.reduceBEq]) | (refine hN _ ?_ ?_ Wk.kk) | (with_reducible refine And.intro ?_ ?_) | (with_reducible omega) | (exact ok_ints) | (exact cells_ints) | (exact no_mem) | (with_reducible exact plain_ints) | (refine le_maxLen ?_; omega) | (refine List.forall_mem_cons.2 ⟨?_, ?_⟩) | (simp only [go_sem, Nat.reduceAdd, Nat.reduceLT, List.mem_cons, List.not_mem_nil, forall_eq]; done)))
              all_goals (first | omega | exact bare_tail _ | (refine hN (out ++ [⟨⟨[], bd⟩, ru, to.getD l.toNat 0, r, n⟩], to.set i out.length) _ hlt ⟨hsucc.symm, by simp [hI2], hset⟩ (Wk.auto (by simp [extraK, lk, killL, St.kill, wipeO, wipeS, AV.has, AV.hasL, AO.wipe, List.map_set, updSt, insL, dropS, ins, D.ints]) (by simp [extraK, lk, killL, St.kill, wipeO, wipeS, AV.has, AV.hasL, AO.wipe, List.map_set, updSt, insL, dropS, ins, D.ints])); done) | trace_state)
            | cons x xr =>
              simp only [List.length_cons] at hxs
              simp (disch := first | omega | decide +kernel) only [hoi, hes, D.ints, go_sem, Nat.reduceEqDiff, Nat.reduceLT, Nat.reduceAdd, Nat.reduceMul, Nat.reduceSub, ↓reduceIte, reduceCtorEq, Nat.reduceLeDiff, Nat.reduceSubDiff, Nat.reduceBEq]
              (repeat' (first | (refine gsel_split (fun h => ?_) (fun h => ?_) <;> (have h' := h) <;> (try simp only [decide_eq_true_eq, decide_eq_false_iff_not, Bool.not_eq_true', Bool.not_eq_false', bne_iff_ne, ne_eq, beq_iff_eq, bne_eq_false_iff_eq, beq_eq_false_iff_ne, Int.ofNat_lt, Int.ofNat_le, Int.not_lt, Int.not_le, Decidable.not_not, Bool.and_eq_true, Bool.or_eq_true, Bool.or_eq_false_iff, gt_iff_lt, ge_iff_le] at h') <;> first | (exfalso; omega) | (simp (disch := first | omega | decide +kernel) only [h, hoi, hes, D.ints, go_sem, Nat.reduceEqDiff, Nat.reduceLT, Nat.reduceAdd, Nat.reduceMul, Nat.reduceSub, ↓reduceIte, reduceCtorEq, Nat.reduceLeDiff, Nat.reduceSubDiff, Nat.reduceBEq] <;> clear h)) | ((first | refine callX_new (c2) rfl (by decide) ?_ | refine callY_new (c2) rfl ?_ | refine hE _ _ ret_ne ?_ | refine hE _ _ exit_ne ?_) <;> try simp (disch := first | omega | decide +kernel) only [hoi, hes, D.ints, go_sem, Nat.reduceEqDiff, Nat.reduceLT, Nat.reduceAdd, Nat.reduceMul, Nat.reduceSub, ↓reduceIte, reduceCtorEq, Nat.reduceLeDiff, Nat.reduceSubDiff, Nat.reduceBEq]) | (refine hN _ ?_ ?_ Wk.kk) | (with_reducible refine And.intro ?_ ?_) | (with_reducible omega) | (exact ok_ints) | (exact cells_ints) | (exact no_mem) | (with_reducible exact plain_ints) | (refine le_maxLen ?_; omega) | (refine List.forall_mem_cons.2 ⟨?_, ?_⟩) | (simp only [go_sem, Nat.reduceAdd, Nat.reduceLT, List.mem_cons, List.not_mem_nil, forall_eq]; done)))
              all_goals (first | omega | exact bare_tail _ | (refine hN (out ++ [⟨⟨x :: xr, bd⟩, ru, to.getD l.toNat 0, r, n⟩], to.set i out.length) _ hlt ⟨hsucc.symm, by simp [hI2], hset⟩ (Wk.auto (by simp [extraK, lk, killL, St.kill, wipeO, wipeS, AV.has, AV.hasL, AO.wipe, List.map_set, updSt, insL, dropS, ins, D.ints]) (by simp [extraK, lk, killL, St.kill, wipeO, wipeS, AV.has, AV.hasL, AO.wipe, List.map_set, updSt, insL, dropS, ins, D.ints])); done) | trace_state)
          · rw [newS_0 (s := ⟨⟨co, bd⟩, ru, l, r, n⟩) h4 h5] at hsucc
            have c2 := l16Uses_sl ⟨⟨co, bd⟩, ru, l, r, n⟩
            unfold useP at c2
            rw [if_neg h4, if_neg h5] at c2
            try simp only at c2
            clear huse
            cases co with
            | nil =>
              simp (disch := first | omega | decide +kernel) only [hoi, hes, D.ints, go_sem, Nat.reduceEqDiff, Nat.reduceLT, Nat.reduceAdd, Nat.reduceMul, Nat.reduceSub, ↓reduceIte, reduceCtorEq, Nat.reduceLeDiff, Nat.reduceSubDiff, Nat.reduceBEq]
              (repeat' (first | (refine gsel_split (fun h => ?_) (fun h => ?_) <;> (have h' := h) <;> (try simp only [decide_eq_true_eq, decide_eq_false_iff_not, Bool.not_eq_true', Bool.not_eq_false', bne_iff_ne, ne_eq, beq_iff_eq, bne_eq_false_iff_eq, beq_eq_false_iff_ne, Int.ofNat_lt, Int.ofNat_le, Int.not_lt, Int.not_le, Decidable.not_not, Bool.and_eq_true, Bool.or_eq_true, Bool.or_eq_false_iff, gt_iff_lt, ge_iff_le] at h') <;> first | (exfalso; omega) | (simp (disch := first | omega | decide +kernel) only [h, hoi, hes, D.ints, go_sem, Nat.reduceEqDiff, Nat.reduceLT, Nat.reduceAdd, Nat.reduceMul, Nat.reduceSub, ↓reduceIte, reduceCtorEq, Nat.reduceLeDiff, Nat.reduceSubDiff, Nat.reduceBEq] <;> clear h)) | ((first | refine callX_new (c2) rfl (by decide) ?_ | refine callY_new (c2) rfl ?_ | refine hE _ _ ret_ne ?_ | refine hE _ _ exit_ne ?_) <;> try simp (disch := first | omega | decide +kernel) only [hoi, hes, D.ints, go_sem, Nat.reduceEqDiff, Nat.reduceLT, Nat.reduceAdd, Nat.reduceMul, Nat.reduceSub, ↓reduceIte, reduceCtorEq, Nat.reduceLeDiff, Nat.reduceSubDiff, Nat.reduceBEq]) | (refine hN _ ?_ ?_ Wk.kk) | (with_reducible refine And.intro ?_ ?_) | (with_reducible omega) | (exact ok_ints) | (exact cells_ints) | (exact no_mem) | (with_reducible exact plain_ints) | (refine le_maxLen ?_; omega) | (refine List.forall_mem_cons.2 ⟨?_, ?_⟩) | (simp only [go_sem, Nat.reduceAdd, Nat.reduceLT, List.mem_cons, List.not_mem_nil, forall_eq]; done)))
              all_goals (first | omega | exact bare_tail _ | (refine hN (out ++ [⟨⟨[], bd⟩, ru, l, r, n⟩], to.set i out.length) _ hlt ⟨hsucc.symm, by simp [hI2], hset⟩ (Wk.auto (by simp [extraK, lk, killL, St.kill, wipeO, wipeS, AV.has, AV.hasL, AO.wipe, List.map_set, updSt, insL, dropS, ins, D.ints]) (by simp [extraK, lk, killL, St.kill, wipeO, wipeS, AV.has, AV.hasL, AO.wipe, List.map_set, updSt, insL, dropS, ins, D.ints])); done) | trace_state)
            | cons x xr =>
              simp only [List.length_cons] at hxs
              simp (disch := first | omega | decide +kernel) only [hoi, hes, D.ints, go_sem, Nat.reduceEqDiff, Nat.reduceLT, Nat.reduceAdd, Nat.reduceMul, Nat.reduceSub, ↓reduceIte, reduceCtorEq, Nat.reduceLeDiff, Nat.reduceSubDiff, Nat.reduceBEq]
              (repeat' (first | (refine gsel_split (fun h => ?_) (fun h => ?_) <;> (have h' := h) <;> (try simp only [decide_eq_true_eq, decide_eq_false_iff_not, Bool.not_eq_true', Bool.not_eq_false', bne_iff_ne, ne_eq, beq_iff_eq, bne_eq_false_iff_eq, beq_eq_false_iff_ne, Int.ofNat_lt, Int.ofNat_le, Int.not_lt, Int.not_le, Decidable.not_not, Bool.and_eq_true, Bool.or_eq_true, Bool.or_eq_false_iff, gt_iff_lt, ge_iff_le] at h') <;> first | (exfalso; omega) | (simp (disch := first | omega | decide +kernel) only [h, hoi, hes, D.ints, go_sem, Nat.reduceEqDiff, Nat.reduceLT, Nat.reduceAdd, Nat.reduceMul, Nat.reduceSub, ↓reduceIte, reduceCtorEq, Nat.reduceLeDiff, Nat.reduceSubDiff, Nat.reduceBEq] <;> clear h)) | ((first | refine callX_new (c2) rfl (by decide) ?_ | refine callY_new (c2) rfl ?_ | refine hE _ _ ret_ne ?_ | refine hE _ _ exit_ne ?_) <;> try simp (disch := first | omega | decide +kernel) only [hoi, hes, D.ints, go_sem, Nat.reduceEqDiff, Nat.reduceLT, Nat.reduceAdd, Nat.reduceMul, Nat.reduceSub, ↓reduceIte, reduceCtorEq, Nat.reduceLeDiff, Nat.reduceSubDiff, Nat.reduceBEq]) | (refine hN _ ?_ ?_ Wk.kk) | (with_reducible refine And.intro ?_ ?_) | (with_reducible omega) | (exact ok_ints) | (exact cells_ints) | (exact no_mem) | (with_reducible exact plain_ints) | (refine le_maxLen ?_; omega) | (refine List.forall_mem_cons.2 ⟨?_, ?_⟩) | (simp only [go_sem, Nat.reduceAdd, Nat.reduceLT, List.mem_cons, List.not_mem_nil, forall_eq]; done)))
              all_goals (first | omega | exact bare_tail _ | (refine hN (out ++ [⟨⟨x :: xr, bd⟩, ru, l, r, n⟩], to.set i out.length) _ hlt ⟨hsucc.symm, by simp [hI2], hset⟩ (Wk.auto (by simp [extraK, lk, killL, St.kill, wipeO, wipeS, AV.has, AV.hasL, AO.wipe, List.map_set, updSt, insL, dropS, ins, D.ints]) (by simp [extraK, lk, killL, St.kill, wipeO, wipeS, AV.has, AV.hasL, AO.wipe, List.map_set, updSt, insL, dropS, ins, D.ints])); done) | trace_state)
    · obtain rfl : i = st.length := by omega
      rw [hkept] at hI1
      rw [← hI1] at hE
      simp (disch := first | omega | decide +kernel) only [go_sem, Nat.reduceEqDiff, Nat.reduceLT, Nat.reduceAdd, Nat.reduceMul, Nat.reduceSub, ↓reduceIte, reduceCtorEq, Nat.reduceLeDiff, Nat.reduceSubDiff, Nat.reduceBEq]
      (repeat' (first | (refine gsel_split (fun h => ?_) (fun h => ?_) <;> (have h' := h) <;> (try simp only [decide_eq_true_eq, decide_eq_false_iff_not, Bool.not_eq_true', Bool.not_eq_false', bne_iff_ne, ne_eq, beq_iff_eq, bne_eq_false_iff_eq, beq_eq_false_iff_ne, Int.ofNat_lt, Int.ofNat_le, Int.not_lt, Int.not_le, Decidable.not_not, Bool.and_eq_true, Bool.or_eq_true, Bool.or_eq_false_iff, gt_iff_lt, ge_iff_le] at h') <;> first | (exfalso; omega) | (simp (disch := first | omega | decide +kernel) only [h, go_sem, Nat.reduceEqDiff, Nat.reduceLT, Nat.reduceAdd, Nat.reduceMul, Nat.reduceSub, ↓reduceIte, reduceCtorEq, Nat.reduceLeDiff, Nat.reduceSubDiff, Nat.reduceBEq] <;> clear h)) | ((first | refine hE _ _ ret_ne ?_ | refine hE _ _ exit_ne ?_) <;> try simp (disch := first | omega | decide +kernel) only [go_sem, Nat.reduceEqDiff, Nat.reduceLT, Nat.reduceAdd, Nat.reduceMul, Nat.reduceSub, ↓reduceIte, reduceCtorEq, Nat.reduceLeDiff, Nat.reduceSubDiff, Nat.reduceBEq]) | (refine hN _ ?_ ?_ Wk.kk) | (with_reducible refine And.intro ?_ ?_) | (with_reducible omega) | (exact ok_ints) | (exact cells_ints) | (exact no_mem) | (with_reducible exact plain_ints) | (refine le_maxLen ?_; omega) | (refine List.forall_mem_cons.2 ⟨?_, ?_⟩) | (simp only [go_sem, Nat.reduceAdd, Nat.reduceLT, List.mem_cons, List.not_mem_nil, forall_eq]; done)))
      all_goals (first | omega | exact ret_dp _ rfl rfl | trace_state)
end Abs.Y
