/- What functions of this program compute, as contracts over plain data, with what the proofs need of them. No condition. -/
import Derived.Test.YtoppjihdipidiaaV2
set_option linter.all false
namespace Abs.Y
open Go Go.Proofs Abs
open Nat (reduceEqDiff reduceLT reduceAdd reduceMul reduceSub reduceLeDiff reduceSubDiff)
set_option maxRecDepth 100000

@[reducible] def D.tm (q : Int × Int) : D := .agg [.int .i64 q.1, .int .i64 q.2]
@[reducible] def D.tms (l : List (Int × Int)) : D := .slice (l.map D.tm)
theorem el_tm {xs : List (Int × Int)} {i : Nat} (h : i < xs.length) : el (xs.map D.tm) i = .agg [.int .i64 (xs.getD i (0, 0)).1, .int .i64 (xs.getD i (0, 0)).2] := el_map (f := D.tm) (0, 0) h
theorem plain_tms {l : List (Int × Int)} : ∀ x ∈ l.map D.tm, x.plain = true := fun x hx => by
  obtain ⟨s, _, rfl⟩ := List.mem_map.1 hx; rfl
def Tms (p : Int) (n : Nat) (a : List (Int × Int)) : Prop := ∀ t ∈ a, (0 ≤ t.1 ∧ t.1 < n) ∧ 0 ≤ t.2 ∧ t.2 < p
def dnT (n : Nat) (a : List (Int × Int)) : List Int := a.foldl (fun v t => v.set t.1.toNat t.2) (List.replicate n 0)
theorem dnT_len (n : Nat) (a : List (Int × Int)) : (dnT n a).length = n := by
  have : ∀ (a : List (Int × Int)) (v : List Int), (a.foldl (fun v t => v.set t.1.toNat t.2) v).length = v.length := by
    intro a
    induction a with
    | nil => intro v; rfl
    | cons t r ih => intro v; rw [List.foldl_cons, ih]; simp
  rw [dnT, this]; simp
theorem Vec.dn {p : Int} {n : Nat} {a : List (Int × Int)} (hp : 0 < p) (h : Tms p n a) : Vec p n (dnT n a) := by
  have : ∀ (a : List (Int × Int)) (v : List Int), Tms p n a → Vec p n v → Vec p n (a.foldl (fun v t => v.set t.1.toNat t.2) v) := by
    intro a
    induction a with
    | nil => intro v _ h; exact h
    | cons t r ih =>
      intro v ht hv
      refine ih _ (fun x hx => ht x (by simp [hx])) ⟨by simp [hv.1], fun i => ?_⟩
      rw [getD_set]
      split
      · exact (ht t (by simp)).2
      · exact hv.2 i
  exact this a _ h (Vec.zero hp n)
theorem tms_sp {p : Int} {n : Nat} {v : List Int} (h : Vec p n v) : Tms p n (spT v) := fun t ht => by
  obtain ⟨m, hm, rfl⟩ := List.mem_map.1 ht
  have h1 := List.mem_range.1 (List.mem_filter.1 hm).1
  have h2 := h.2 m
  have h3 := h.1
  exact ⟨⟨by omega, by simp only; omega⟩, h2⟩
theorem sp_len (v : List Int) : (spT v).length ≤ v.length := by
  unfold spT
  rw [List.length_map]
  exact Nat.le_trans (List.length_filter_le _ _) (by simp)
theorem dn_sp (v : List Int) : dnT v.length (spT v) = v := by
  have key : ∀ (r : List Nat) (w : List Int), w.length = v.length → (∀ m ∈ r, m < v.length) → ∀ i, i < v.length →
      (((r.filter fun m => decide (v.getD m 0 ≠ 0)).map fun m : Nat => ((m : Int), v.getD m 0)).foldl (fun (v : List Int) (t : Int × Int) => v.set t.1.toNat t.2) w).getD i 0 = if i ∈ r ∧ v.getD i 0 ≠ 0 then v.getD i 0 else w.getD i 0 := by
    intro r
    induction r with
    | nil => intro w _ _ i _; simp
    | cons m r ih =>
      intro w hw hr i hi
      have hr' : ∀ m ∈ r, m < v.length := fun x hx => hr x (by simp [hx])
      by_cases hz : v.getD m 0 = 0
      · rw [List.filter_cons_of_neg (by rw [decide_eq_true_eq]; exact fun h => h hz), ih w hw hr' i hi]
        by_cases e : i = m
        · subst e
          rw [if_neg (fun h => h.2 hz), if_neg (fun h => h.2 hz)]
        · by_cases hm : i ∈ r ∧ v.getD i 0 ≠ 0
          · rw [if_pos hm, if_pos ⟨by simp [hm.1], hm.2⟩]
          · rw [if_neg hm, if_neg (fun h => hm ⟨by simpa [e] using h.1, h.2⟩)]
      · rw [List.filter_cons_of_pos (by rw [decide_eq_true_eq]; exact hz), List.map_cons, List.foldl_cons]
        simp only [Int.toNat_natCast]
        rw [ih _ (by simp [hw]) hr' i hi, getD_set]
        by_cases hm : i ∈ r ∧ v.getD i 0 ≠ 0
        · rw [if_pos hm, if_pos ⟨by simp [hm.1], hm.2⟩]
        · rw [if_neg hm]
          by_cases e : m = i
          · subst e
            rw [if_pos ⟨rfl, by omega⟩, if_pos ⟨by simp, hz⟩]
          · rw [if_neg (fun h => e h.1), if_neg (fun h => hm ⟨by simpa [Ne.symm e] using h.1, h.2⟩)]
  refine ext_getDz 0 (dnT_len _ _) fun i hi => ?_
  rw [dnT_len] at hi
  have := key (List.range v.length) (List.replicate v.length 0) (by simp) (fun m hm => List.mem_range.1 hm) i hi
  unfold dnT spT
  rw [this]
  by_cases hz : v.getD i 0 = 0
  · rw [if_neg (fun h => h.2 hz), hz, List.getD_eq_getElem?_getD, List.getElem?_replicate]; split <;> rfl
  · rw [if_pos ⟨List.mem_range.2 hi, hz⟩]
theorem mod_vec {p : Int} {n : Nat} {v : List Int} (h : Vec p n v) : v.map (fun x => x % p) = v := by
  refine (List.map_congr_left fun x hx => ?_).trans (List.map_id v)
  obtain ⟨i, hi, rfl⟩ := mem_getD 0 hx
  exact Int.emod_eq_of_lt (h.2 i).1 (h.2 i).2
theorem Vec.mulS {p : Int} (hp : 0 < p) (n : Nat) (a b : List (Int × Int)) : Vec p n (mulS p n a b) := fold_vec (fun v t h => h.rowS hp b _ _) a (Vec.zero hp n)
theorem add_mod (p k : Int) (a b : List Int) : (List.zipWith (fun x y => x + k * y) a b).map (fun x => x % p) = addD p k a b := by
  unfold addD
  rw [List.map_zipWith]
section
variable {p : Int} {u : Nat} (hp : 1 < p ∧ p ≤ 5) (hu : u ≤ 6)
include hp hu
set_option maxHeartbeats 4000000 in
theorem l18Dense_ok {a : List (Int × Int)} (hl : a.length ≤ 4294967296) (ha : Tms p (2 ^ u) a) : Ctr Try.prog 116 [.int .i64 u, D.tms a] false (.sl 0) [(0, .arr 3 1 ((dnT (2 ^ u) a).map (.int .i64)))] := by
  have h2 := pow_le6 hu
  have e : IntKind.wrap .i64 (1 * 2 ^ min u 64) = ((2 ^ u : Nat) : Int) := shl_one (by omega)
  have er : List.replicate (2 ^ u) (D.int .i64 0) = (List.replicate (2 ^ u) (0 : Int)).map (D.int .i64) := by simp
  unfold dnT
  generalize 2 ^ u = n at *
  refine Ctr.of (n := 29) (rs := [.tmp 4]) Try.func116 rfl rfl Try.ntmps116 rfl rfl (by kernel_rfl) Try.checked.mixed ?_
  simp (disch := first | omega | decide +kernel) only [e, go_sem, reduceEqDiff, reduceLT, reduceAdd, reduceMul, reduceSub, ↓reduceIte, reduceCtorEq, reduceLeDiff, reduceSubDiff, Nat.reduceBEq]
  (repeat' (first | (refine gsel_split (fun h => ?_) (fun h => ?_) <;> (have h' := h) <;> (try simp only [decide_eq_true_eq, decide_eq_false_iff_not, Bool.not_eq_true', Bool.not_eq_false', bne_iff_ne, ne_eq, beq_iff_eq, bne_eq_false_iff_eq, beq_eq_false_iff_ne, Int.ofNat_lt, Int.ofNat_le, Int.not_lt, Int.not_le, Decidable.not_not, Bool.and_eq_true, Bool.or_eq_true, Bool.or_eq_false_iff, gt_iff_lt, ge_iff_le] at h') <;> first | (exfalso; omega) | (simp (disch := first | omega | decide +kernel) only [h, e, go_sem, reduceEqDiff, reduceLT, reduceAdd, reduceMul, reduceSub, ↓reduceIte, reduceCtorEq, reduceLeDiff, reduceSubDiff, Nat.reduceBEq] <;> clear h)) | ((first | refine hE _ _ ret_ne ?_ | refine hE _ _ exit_ne ?_) <;> try simp (disch := first | omega | decide +kernel) only [e, go_sem, reduceEqDiff, reduceLT, reduceAdd, reduceMul, reduceSub, ↓reduceIte, reduceCtorEq, reduceLeDiff, reduceSubDiff, Nat.reduceBEq]) | (refine hN _ ?_ ?_ Wk.kk) | (with_reducible refine And.intro ?_ ?_) | (with_reducible omega) | (exact ok_ints) | (exact cells_ints) | (exact no_mem) | (with_reducible exact plain_ints) | (refine le_maxLen ?_; omega) | (refine List.forall_mem_cons.2 ⟨?_, ?_⟩) | (simp only [go_sem, Nat.reduceAdd, Nat.reduceLT, List.mem_cons, List.not_mem_nil, forall_eq]; done)))
  all_goals (first | omega | skip)
  rw [er]
  refine Ok.loopN [27, 26, 25, 24, 23, 22, 21, 20, 19, 18, 17, 16, 15, 14, 13, 12, 11, 10, 9, 8, 7, 6, 3, 2, 0] (fun i _ => [(6, .d (.int .i64 (i : Nat)))]) (fun _ (v : List Int) => [(9, .arr 3 1 (List.map (D.int .i64) v))]) a.length
    (fun i v => v = (a.take i).foldl (fun v t => v.set t.1.toNat t.2) (List.replicate n 0) ∧ v.length = n) (List.replicate n 0) ⟨rfl, by simp⟩ (Wk.kk) ?_
  rintro R i v hN hE hi ⟨hv, hvl⟩
  by_cases hlt : i < a.length
  · have ht := ha _ (getD_mem (z := ((0, 0) : Int × Int)) hlt)
    have hs : (a.take (i + 1)).foldl (fun v t => v.set t.1.toNat t.2) (List.replicate n 0) = v.set (a.getD i (0, 0)).1.toNat (a.getD i (0, 0)).2 := by
      rw [take_succ (0, 0) a i hlt, List.foldl_append, ← hv]; rfl
    have hes := el_tm hlt
    clear hv
    generalize a.getD i (0, 0) = t at *
    simp (disch := first | omega | decide +kernel) only [hes, go_sem, reduceEqDiff, reduceLT, reduceAdd, reduceMul, reduceSub, ↓reduceIte, reduceCtorEq, reduceLeDiff, reduceSubDiff, Nat.reduceBEq]
    (repeat' (first | (refine gsel_split (fun h => ?_) (fun h => ?_) <;> (have h' := h) <;> (try simp only [decide_eq_true_eq, decide_eq_false_iff_not, Bool.not_eq_true', Bool.not_eq_false', bne_iff_ne, ne_eq, beq_iff_eq, bne_eq_false_iff_eq, beq_eq_false_iff_ne, Int.ofNat_lt, Int.ofNat_le, Int.not_lt, Int.not_le, Decidable.not_not, Bool.and_eq_true, Bool.or_eq_true, Bool.or_eq_false_iff, gt_iff_lt, ge_iff_le] at h') <;> first | (exfalso; omega) | (simp (disch := first | omega | decide +kernel) only [h, hes, go_sem, reduceEqDiff, reduceLT, reduceAdd, reduceMul, reduceSub, ↓reduceIte, reduceCtorEq, reduceLeDiff, reduceSubDiff, Nat.reduceBEq] <;> clear h)) | ((first | refine hE _ _ ret_ne ?_ | refine hE _ _ exit_ne ?_) <;> try simp (disch := first | omega | decide +kernel) only [hes, go_sem, reduceEqDiff, reduceLT, reduceAdd, reduceMul, reduceSub, ↓reduceIte, reduceCtorEq, reduceLeDiff, reduceSubDiff, Nat.reduceBEq]) | (refine hN _ ?_ ?_ Wk.kk) | (with_reducible refine And.intro ?_ ?_) | (with_reducible omega) | (exact ok_ints) | (exact cells_ints) | (exact no_mem) | (with_reducible exact plain_ints) | (refine le_maxLen ?_; omega) | (refine List.forall_mem_cons.2 ⟨?_, ?_⟩) | (simp only [go_sem, Nat.reduceAdd, Nat.reduceLT, List.mem_cons, List.not_mem_nil, forall_eq]; done)))
    all_goals (first | omega | (refine hN (v.set t.1.toNat t.2) _ hlt ⟨hs.symm, by simp [hvl]⟩ (by refine Wk.auto ?_ ?_ <;> simp [extraK, lk, killL, St.kill, wipeO, wipeS, AV.has, AV.hasL, AO.wipe, List.map_set, updSt, insL, dropS, ins, ]); done))
  · rw [List.take_of_length_le (by omega)] at hv
    obtain rfl : i = a.length := by omega
    simp (disch := first | omega | decide +kernel) only [go_sem, reduceEqDiff, reduceLT, reduceAdd, reduceMul, reduceSub, ↓reduceIte, reduceCtorEq, reduceLeDiff, reduceSubDiff, Nat.reduceBEq]
    (repeat' (first | (refine gsel_split (fun h => ?_) (fun h => ?_) <;> (have h' := h) <;> (try simp only [decide_eq_true_eq, decide_eq_false_iff_not, Bool.not_eq_true', Bool.not_eq_false', bne_iff_ne, ne_eq, beq_iff_eq, bne_eq_false_iff_eq, beq_eq_false_iff_ne, Int.ofNat_lt, Int.ofNat_le, Int.not_lt, Int.not_le, Decidable.not_not, Bool.and_eq_true, Bool.or_eq_true, Bool.or_eq_false_iff, gt_iff_lt, ge_iff_le] at h') <;> first | (exfalso; omega) | (simp (disch := first | omega | decide +kernel) only [h, go_sem, reduceEqDiff, reduceLT, reduceAdd, reduceMul, reduceSub, ↓reduceIte, reduceCtorEq, reduceLeDiff, reduceSubDiff, Nat.reduceBEq] <;> clear h)) | ((first | refine hE _ _ ret_ne ?_ | refine hE _ _ exit_ne ?_) <;> try simp (disch := first | omega | decide +kernel) only [go_sem, reduceEqDiff, reduceLT, reduceAdd, reduceMul, reduceSub, ↓reduceIte, reduceCtorEq, reduceLeDiff, reduceSubDiff, Nat.reduceBEq]) | (refine hN _ ?_ ?_ Wk.kk) | (with_reducible refine And.intro ?_ ?_) | (with_reducible omega) | (exact ok_ints) | (exact cells_ints) | (exact no_mem) | (with_reducible exact plain_ints) | (refine le_maxLen ?_; omega) | (refine List.forall_mem_cons.2 ⟨?_, ?_⟩) | (simp only [go_sem, Nat.reduceAdd, Nat.reduceLT, List.mem_cons, List.not_mem_nil, forall_eq]; done)))
    all_goals (first | omega | (rw [← hv]; exact ret_sl 9 rfl rfl plain_ints))
set_option maxHeartbeats 4000000 in
theorem l18Sparse_ok {v : List Int} (hl : v.length ≤ 64) (hv : ∀ i, 0 ≤ v.getD i 0 ∧ v.getD i 0 ≤ 1000) : Ctr Try.prog 152 [.int .i64 p, .ints v] false (.sl 0) [(0, .arr 124 2 ((spT (v.map fun x => x % p)).map D.tm))] := by
  have hp0 : ¬ p = 0 := by omega
  have hg : ∀ m, m < v.length → (v.map fun x => x % p).getD m 0 = v.getD m 0 % p := fun m hm => by
    simp only [List.getD_eq_getElem?_getD, List.getElem?_map, List.getElem?_eq_getElem hm, Option.map_some, Option.getD_some]
  refine Ctr.of (n := 30) (rs := [.tmp 4]) Try.func152 rfl rfl Try.ntmps152 rfl rfl (by kernel_rfl) Try.checked.mixed ?_
  simp (disch := first | omega | decide +kernel) only [D.ints, go_sem, reduceEqDiff, reduceLT, reduceAdd, reduceMul, reduceSub, ↓reduceIte, reduceCtorEq, reduceLeDiff, reduceSubDiff, Nat.reduceBEq]
  (repeat' (first | (refine gsel_split (fun h => ?_) (fun h => ?_) <;> (have h' := h) <;> (try simp only [decide_eq_true_eq, decide_eq_false_iff_not, Bool.not_eq_true', Bool.not_eq_false', bne_iff_ne, ne_eq, beq_iff_eq, bne_eq_false_iff_eq, beq_eq_false_iff_ne, Int.ofNat_lt, Int.ofNat_le, Int.not_lt, Int.not_le, Decidable.not_not, Bool.and_eq_true, Bool.or_eq_true, Bool.or_eq_false_iff, gt_iff_lt, ge_iff_le] at h') <;> first | (exfalso; omega) | (simp (disch := first | omega | decide +kernel) only [h, D.ints, go_sem, reduceEqDiff, reduceLT, reduceAdd, reduceMul, reduceSub, ↓reduceIte, reduceCtorEq, reduceLeDiff, reduceSubDiff, Nat.reduceBEq] <;> clear h)) | ((first | refine hE _ _ ret_ne ?_ | refine hE _ _ exit_ne ?_) <;> try simp (disch := first | omega | decide +kernel) only [D.ints, go_sem, reduceEqDiff, reduceLT, reduceAdd, reduceMul, reduceSub, ↓reduceIte, reduceCtorEq, reduceLeDiff, reduceSubDiff, Nat.reduceBEq]) | (refine hN _ ?_ ?_ Wk.kk) | (with_reducible refine And.intro ?_ ?_) | (with_reducible omega) | (exact ok_ints) | (exact cells_ints) | (exact no_mem) | (with_reducible exact plain_ints) | (refine le_maxLen ?_; omega) | (refine List.forall_mem_cons.2 ⟨?_, ?_⟩) | (simp only [go_sem, Nat.reduceAdd, Nat.reduceLT, List.mem_cons, List.not_mem_nil, forall_eq]; done)))
  refine Ok.loopN [28, 27, 26, 25, 24, 23, 22, 21, 20, 19, 18, 17, 16, 15, 14, 13, 12, 11, 10, 9, 8, 7, 6, 5, 3, 2] (fun i _ => [(6, .d (.int .i64 (i : Nat))), (5, .sl 8)]) (fun _ (w : List (Int × Int)) => [(8, .arr 124 2 (List.map D.tm w))]) v.length
    (fun i w => w = ((List.range i).filter fun m => decide ((v.map fun x => x % p).getD m 0 ≠ 0)).map (fun m : Nat => ((m : Int), (v.map fun x => x % p).getD m 0)) ∧ w.length ≤ i) [] ⟨rfl, Nat.le_refl _⟩ (Wk.kk) ?_
  rintro R i w hN hE hi ⟨hw, hwl⟩
  by_cases hlt : i < v.length
  · have hvi := hv i
    have hgi := hg i hlt
    have em : (v.getD i 0).tmod p = v.getD i 0 % p := Int.tmod_eq_emod_of_nonneg hvi.1
    have hmn := Int.emod_nonneg (v.getD i 0) hp0
    have hml := Int.emod_lt_of_pos (v.getD i 0) (show 0 < p by omega)
    have hs : ((List.range (i + 1)).filter fun m => decide ((v.map fun x => x % p).getD m 0 ≠ 0)).map (fun m : Nat => ((m : Int), (v.map fun x => x % p).getD m 0)) = if v.getD i 0 % p = 0 then w else w ++ [((i : Int), v.getD i 0 % p)] := by
      rw [List.range_succ, List.filter_append, List.map_append, ← hw]
      by_cases hz : v.getD i 0 % p = 0
      · rw [if_pos hz, List.filter_cons_of_neg (by rw [hgi, decide_eq_true_eq]; exact fun h => h hz)]; simp
      · rw [if_neg hz, List.filter_cons_of_pos (by rw [hgi, decide_eq_true_eq]; exact hz)]; simp only [List.filter_nil, List.map_cons, List.map_nil, hgi]
    clear hw hg
    generalize v.getD i 0 % p = r at *
    by_cases hz : r = 0
    · rw [if_pos hz] at hs
      have hb : (r != 0) = false := by rw [hz]; rfl
      simp (disch := first | omega | decide +kernel) only [em, hb, go_sem, reduceEqDiff, reduceLT, reduceAdd, reduceMul, reduceSub, ↓reduceIte, reduceCtorEq, reduceLeDiff, reduceSubDiff, Nat.reduceBEq]
      (repeat' (first | (refine gsel_split (fun h => ?_) (fun h => ?_) <;> (have h' := h) <;> (try simp only [decide_eq_true_eq, decide_eq_false_iff_not, Bool.not_eq_true', Bool.not_eq_false', bne_iff_ne, ne_eq, beq_iff_eq, bne_eq_false_iff_eq, beq_eq_false_iff_ne, Int.ofNat_lt, Int.ofNat_le, Int.not_lt, Int.not_le, Decidable.not_not, Bool.and_eq_true, Bool.or_eq_true, Bool.or_eq_false_iff, gt_iff_lt, ge_iff_le] at h') <;> first | (exfalso; omega) | (simp (disch := first | omega | decide +kernel) only [h, em, hb, go_sem, reduceEqDiff, reduceLT, reduceAdd, reduceMul, reduceSub, ↓reduceIte, reduceCtorEq, reduceLeDiff, reduceSubDiff, Nat.reduceBEq] <;> clear h)) | ((first | refine hE _ _ ret_ne ?_ | refine hE _ _ exit_ne ?_) <;> try simp (disch := first | omega | decide +kernel) only [em, hb, go_sem, reduceEqDiff, reduceLT, reduceAdd, reduceMul, reduceSub, ↓reduceIte, reduceCtorEq, reduceLeDiff, reduceSubDiff, Nat.reduceBEq]) | (refine hN _ ?_ ?_ Wk.kk) | (with_reducible refine And.intro ?_ ?_) | (with_reducible omega) | (exact ok_ints) | (exact cells_ints) | (exact no_mem) | (with_reducible exact plain_ints) | (refine le_maxLen ?_; omega) | (refine List.forall_mem_cons.2 ⟨?_, ?_⟩) | (simp only [go_sem, Nat.reduceAdd, Nat.reduceLT, List.mem_cons, List.not_mem_nil, forall_eq]; done)))
      all_goals (first | omega | (refine hN w _ hlt ⟨hs.symm, by omega⟩ (by refine Wk.auto ?_ ?_ <;> simp [extraK, lk, killL, St.kill, wipeO, wipeS, AV.has, AV.hasL, AO.wipe, List.map_set, updSt, insL, dropS, ins, ]); done))
    · rw [if_neg hz] at hs
      have hb : (r != 0) = true := bne_iff_ne.2 hz
      simp (disch := first | omega | decide +kernel) only [em, hb, go_sem, reduceEqDiff, reduceLT, reduceAdd, reduceMul, reduceSub, ↓reduceIte, reduceCtorEq, reduceLeDiff, reduceSubDiff, Nat.reduceBEq]
      (repeat' (first | (refine gsel_split (fun h => ?_) (fun h => ?_) <;> (have h' := h) <;> (try simp only [decide_eq_true_eq, decide_eq_false_iff_not, Bool.not_eq_true', Bool.not_eq_false', bne_iff_ne, ne_eq, beq_iff_eq, bne_eq_false_iff_eq, beq_eq_false_iff_ne, Int.ofNat_lt, Int.ofNat_le, Int.not_lt, Int.not_le, Decidable.not_not, Bool.and_eq_true, Bool.or_eq_true, Bool.or_eq_false_iff, gt_iff_lt, ge_iff_le] at h') <;> first | (exfalso; omega) | (simp (disch := first | omega | decide +kernel) only [h, em, hb, go_sem, reduceEqDiff, reduceLT, reduceAdd, reduceMul, reduceSub, ↓reduceIte, reduceCtorEq, reduceLeDiff, reduceSubDiff, Nat.reduceBEq] <;> clear h)) | ((first | refine hE _ _ ret_ne ?_ | refine hE _ _ exit_ne ?_) <;> try simp (disch := first | omega | decide +kernel) only [em, hb, go_sem, reduceEqDiff, reduceLT, reduceAdd, reduceMul, reduceSub, ↓reduceIte, reduceCtorEq, reduceLeDiff, reduceSubDiff, Nat.reduceBEq]) | (refine hN _ ?_ ?_ Wk.kk) | (with_reducible refine And.intro ?_ ?_) | (with_reducible omega) | (exact ok_ints) | (exact cells_ints) | (exact no_mem) | (with_reducible exact plain_ints) | (refine le_maxLen ?_; omega) | (refine List.forall_mem_cons.2 ⟨?_, ?_⟩) | (simp only [go_sem, Nat.reduceAdd, Nat.reduceLT, List.mem_cons, List.not_mem_nil, forall_eq]; done)))
      all_goals (first | omega | (rw [ok_agg]; simp [D.atom]; done) | (refine hN (w ++ [((i : Int), r)]) _ hlt ⟨hs.symm, by simp; omega⟩ (by refine Wk.auto ?_ ?_ <;> simp [extraK, lk, killL, St.kill, wipeO, wipeS, AV.has, AV.hasL, AO.wipe, List.map_set, updSt, insL, dropS, ins, ]); done))
  · obtain rfl : i = v.length := by omega
    have hw2 : w = spT (v.map fun x => x % p) := by rw [hw, spT, List.length_map]
    clear hw
    subst hw2
    simp (disch := first | omega | decide +kernel) only [go_sem, reduceEqDiff, reduceLT, reduceAdd, reduceMul, reduceSub, ↓reduceIte, reduceCtorEq, reduceLeDiff, reduceSubDiff, Nat.reduceBEq]
    (repeat' (first | (refine gsel_split (fun h => ?_) (fun h => ?_) <;> (have h' := h) <;> (try simp only [decide_eq_true_eq, decide_eq_false_iff_not, Bool.not_eq_true', Bool.not_eq_false', bne_iff_ne, ne_eq, beq_iff_eq, bne_eq_false_iff_eq, beq_eq_false_iff_ne, Int.ofNat_lt, Int.ofNat_le, Int.not_lt, Int.not_le, Decidable.not_not, Bool.and_eq_true, Bool.or_eq_true, Bool.or_eq_false_iff, gt_iff_lt, ge_iff_le] at h') <;> first | (exfalso; omega) | (simp (disch := first | omega | decide +kernel) only [h, go_sem, reduceEqDiff, reduceLT, reduceAdd, reduceMul, reduceSub, ↓reduceIte, reduceCtorEq, reduceLeDiff, reduceSubDiff, Nat.reduceBEq] <;> clear h)) | ((first | refine hE _ _ ret_ne ?_ | refine hE _ _ exit_ne ?_) <;> try simp (disch := first | omega | decide +kernel) only [go_sem, reduceEqDiff, reduceLT, reduceAdd, reduceMul, reduceSub, ↓reduceIte, reduceCtorEq, reduceLeDiff, reduceSubDiff, Nat.reduceBEq]) | (refine hN _ ?_ ?_ Wk.kk) | (with_reducible refine And.intro ?_ ?_) | (with_reducible omega) | (exact ok_ints) | (exact cells_ints) | (exact no_mem) | (with_reducible exact plain_ints) | (refine le_maxLen ?_; omega) | (refine List.forall_mem_cons.2 ⟨?_, ?_⟩) | (simp only [go_sem, Nat.reduceAdd, Nat.reduceLT, List.mem_cons, List.not_mem_nil, forall_eq]; done)))
    all_goals (first | omega | exact ret_sl 8 rfl rfl plain_tms)
end
end Abs.Y
