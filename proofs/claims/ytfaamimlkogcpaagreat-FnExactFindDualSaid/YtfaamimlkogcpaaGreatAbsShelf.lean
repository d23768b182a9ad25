/- What functions of this program compute, as contracts over plain data, with what the proofs need of them. No condition. -/
import Derived.Test.YtfaamimlkogcpaaGreatH3
import Derived.Test.YtfaamimlkogcpaaGreatV7
import Derived.Test.YtfaamimlkogcpaaGreatChecked
import Derived.Shelf.SlSortCmp.Whole1
import Derived.Ground.SlsfProg
import Derived.Test.YtfaamimlkogcpaaGreatAbsRow
import Derived.Shelf.SlSortCmp.NoneTotal
import Derived.Shelf.SlicesE.DeleteFunc
import Derived.Shelf.Slices.CompactI
import Derived.Shelf.Spec.SlicesGrow
set_option linter.all false
namespace Abs.Y
open Go Go.Proofs Abs
open Nat renaming reduceEqDiff → zqa, reduceLT → zqb, reduceAdd → zqc, reduceMul → zqd, reduceSub → zqe, reduceLeDiff → zqf, reduceSubDiff → zqg, reduceBEq → zqh
open Bool renaming not_eq_true' → zba, not_eq_false' → zbb, and_eq_true → zbc, or_eq_true → zbd, or_eq_false_iff → zbe
open Int renaming ofNat_lt → zia, ofNat_le → zib, not_lt → zic, not_le → zid
open Decidable renaming not_not → zda
set_option maxRecDepth 100000

def keepS (p : Int) (u : Nat) (s : BaseS × List Pr) (t : Pr) : BaseS × List Pr := (addF p u s.1 t.2.2, if ldFI (leftF p s.1 t.2.2) < 0 then s.2 else s.2 ++ [t])
def spanS (p : Int) (u : Nat) (ts : List Pr) : BaseS × List Pr := ts.foldl (keepS p u) (⟨[], []⟩, [])
theorem spanS_succ (p : Int) (u : Nat) (ts : List Pr) {i : Nat} (h : i < ts.length) : spanS p u (ts.take (i + 1)) = keepS p u (spanS p u (ts.take i)) (ts.getD i (0, 0, [])) := by
  unfold spanS
  rw [take_succ (0, 0, []) ts i h, List.foldl_append]; rfl
theorem spanS_ok {p : Int} {u : Nat} (hp : p = 2 ∨ p = 3 ∨ p = 5) {ts : List Pr} (hts : ∀ t ∈ ts, Vec p (2 ^ u) t.2.2) : ∀ i, i ≤ ts.length → BaseI p u (spanS p u (ts.take i)).1 ∧ (spanS p u (ts.take i)).2.length = (spanS p u (ts.take i)).1.R.length ∧ SpEq p (2 ^ u) (spanS p u (ts.take i)).1.R ((ts.take i).map fun t => t.2.2)
  | 0, _ => ⟨BaseI.nil, rfl, fun _ => Iff.rfl⟩
  | i + 1, hi => by
    obtain ⟨h1, h2, h3⟩ := spanS_ok hp hts i (by omega)
    have hv := hts _ (getD_mem (z := ((0, 0, []) : Pr)) (l := ts) (i := i) (by omega))
    obtain ⟨h4, h5⟩ := addF_ok hp h1 hv
    have hA : AllV p (2 ^ u) ((ts.take i).map fun t => t.2.2) := fun a ha => by
      obtain ⟨t, ht, rfl⟩ := List.mem_map.1 ha
      exact hts t (List.mem_of_mem_take ht)
    rw [spanS_succ p u ts (by omega), take_succ (0, 0, []) ts i (by omega), List.map_append]
    refine ⟨h4, ?_, h5.trans (SpEq.app (by omega) _ h1.vec hA (fun x hx => by
      simp only [List.map_cons, List.map_nil, List.mem_singleton] at hx; rw [hx]; exact hv) h3)⟩
    unfold keepS addF
    simp only
    split
    · exact h2
    · simp [h2]
theorem prK_len (p : Int) (u : Nat) (G : Int → List Nat) (cs : List (List Int)) (d : Int) {n : Nat} (hG : ∀ i, (G (d - ((cs.getD i []).length : Nat))).length ≤ n) : ∀ k, (prK p u G cs d k).length ≤ n * k
  | 0 => by simp [prK]
  | k + 1 => by
    rw [prK_succ, List.length_append]
    have ih := prK_len p u G cs d hG k
    have h1 : (prI p u G cs d k).length ≤ n := by
      unfold prI
      split
      · rw [List.length_map]; exact hG k
      · simp
    rw [Nat.mul_succ]; omega
def spanP (p : Int) (u : Nat) (cs : List (List Int)) (d : Int) : BaseS × List Pr := spanS p u (prK p u (gradN (2 ^ u)) cs d cs.length)
theorem prK_vec {p : Int} (hp : 1 < p) {u : Nat} {G : Int → List Nat} {cs : List (List Int)} {d : Int} {k : Nat} : ∀ t ∈ prK p u G cs d k, Vec p (2 ^ u) t.2.2 := fun t ht => by
  unfold prK at ht
  rw [List.mem_flatMap] at ht
  obtain ⟨i, _, h⟩ := ht
  unfold prI at h
  split at h
  · rw [List.mem_map] at h
    obtain ⟨m, _, rfl⟩ := h
    exact prodC_vec hp u _ m
  · cases h
theorem spanP_ok {p : Int} {u : Nat} (hp : p = 2 ∨ p = 3 ∨ p = 5) (cs : List (List Int)) (d : Int) : BaseI p u (spanP p u cs d).1 ∧ (spanP p u cs d).2.length = (spanP p u cs d).1.R.length ∧ SpEq p (2 ^ u) (spanP p u cs d).1.R (prodsP p u (gradN (2 ^ u)) cs d) := by
  have h := spanS_ok hp (ts := prK p u (gradN (2 ^ u)) cs d cs.length) (u := u) (prK_vec (by omega)) _ (Nat.le_refl _)
  rw [List.take_length, prK_polys p u _ cs d _ (Nat.le_refl _), List.take_length] at h
  exact h
@[reducible] def baseN (R M : List (List Int)) (K : List Pr) : List (Nat × AO) :=
  [(900000004, .arr 81 3 (K.map D.pr)), (900000003, .dp (some (26, 1)) (M.map D.ints) none), (900000002, .arr 3 1 ((R.map fun r => ((ldF r : Nat) : Int)).map (.int .i64))), (900000001, .dp (some (26, 1)) (R.map D.ints) none),
    (7, .box 42 [.sl 900000001, .sl 900000002, .sl 900000003, .sl 900000004])]
theorem rep_get {p k : Int} {n : Nat} {v : List Int} (h : v.length = n) (i : Nat) : (addD p k (List.replicate n 0) v).getD i 0 = (v.getD i 0 * k) % p := by
  rw [addD_get (by simp; omega), getD_rep, Int.zero_add, Int.mul_comm]
section
variable {p : Int} {u : Nat} (hp : p = 2 ∨ p = 3 ∨ p = 5) (hu : u ≤ 6)
include hp hu
set_option maxHeartbeats 16000000 in
theorem l19Span_ok {cs : List (List Int)} (hok : okCnf u cs = true) (hcl : cs.length ≤ 1048576) (hc : ∀ j, (cs.getD j []).length ≤ 1048576) {d : Int} (hd : d ≤ 6) :
    Ctr Tryz.prog 17 [.int .i64 p, .agg [.int .i64 u, .slice (cs.map D.ints)], .int .i64 d] true (.d (D.base (spanP p u cs d).1.R (spanP p u cs d).1.M (spanP p u cs d).2)) [] := by
  have h2 := pow_le6 hu
  have hp1 : 1 < p ∧ p ≤ 5 := by omega
  have c0 := l19Products_ok hp1 hu hok hcl hc hd
  have hpv := prK_vec hp1.1 (u := u) (G := gradN (2 ^ u)) (cs := cs) (d := d) (k := cs.length)
  unfold spanP
  have htl := prK_len p u (gradN (2 ^ u)) cs d (n := 448) (fun i => gradN_len _ _ h2 (by omega)) cs.length
  have h60 := cnf_len hok
  generalize prK p u (gradN (2 ^ u)) cs d cs.length = ts at *
  have hsp := spanS_ok hp hpv
  refine Ctr.of (n := 115) (rs := [.cell 6 42]) Tryz.func17 rfl rfl Tryz.ntmps17 rfl rfl (by kernel_rfl) Tryz.checked.mixed ?_
  simp (disch := first | omega | decide +kernel) only [D.ints, go_sem, zqa, zqb, zqc, zqd, zqe, ↓reduceIte, reduceCtorEq, zqf, zqg, zqh]
  (repeat' (first | ((first | (refine gsel_split (fun q' => ?_) (fun q' => ?_) <;> (have h' := q') <;> (try simp only [decide_eq_true_eq, decide_eq_false_iff_not, zba, zbb, bne_iff_ne, ne_eq, beq_iff_eq, bne_eq_false_iff_eq, beq_eq_false_iff_ne, zia, zib, zic, zid, zda, zbc, zbd, zbe, gt_iff_lt, ge_iff_le] at h') <;> try (exfalso; omega)) | (have q' := trivial; first | refine callX_shared (c0) rfl (by decide) ?_ | refine callY_shared (c0) rfl ?_ | refine hE _ _ ret_ne ?_ | refine hE _ _ exit_ne ?_)) <;> (try simp (disch := first | omega | decide +kernel) only [q', D.ints, go_sem, zqa, zqb, zqc, zqd, zqe, ↓reduceIte, reduceCtorEq, zqf, zqg, zqh]) <;> clear q') | (refine hN _ ?_ ?_ Wk.kk) | (with_reducible refine And.intro ?_ ?_) | (with_reducible omega) | (exact ok_ints) | (exact cells_ints) | (exact no_mem) | (with_reducible exact plain_ints) | (refine le_maxLen ?_; omega) | (refine List.forall_mem_cons.2 ⟨?_, ?_⟩) | (simp only [go_sem, zqc, zqb, List.mem_cons, List.not_mem_nil, forall_eq]; done)))
  all_goals (first | omega | skip)
  refine Ok.loopN [114, 113, 112, 111, 110, 109, 108, 107, 106, 105, 104, 103, 102, 101, 100, 99, 98, 97, 96, 95, 94, 93, 92, 91, 90, 89, 88, 87, 86, 85, 84, 83, 82, 81, 80, 79, 78, 77, 76, 75, 74, 73, 72, 71, 70, 69, 68, 67, 66, 65, 64, 63, 62, 61, 60, 59, 58, 57, 56, 55, 54, 53, 52, 51, 50, 49, 48, 47, 46, 45, 44, 43, 42, 41, 40, 39, 38, 37, 36, 35, 34, 33, 32, 31, 30, 29, 28, 27, 26, 25, 24, 23, 22, 21, 20, 19, 18, 17, 16, 15, 14, 13, 12, 11, 10, 9, 5, 3] (fun i (_ : BaseS × List Pr) => [(9, .d (.int .i64 (i : Nat)))]) (fun _ (s : BaseS × List Pr) => baseN s.1.R s.1.M s.2) ts.length
    (fun i s => s = spanS p u (ts.take i)) (⟨[], []⟩, []) rfl
    ((Wk.nilObj 900000001 7 0 rfl rfl (by simp) (by decide) (e := 26) (k := 1) (by decide)).trans ((Wk.nilObj 900000002 7 1 (by simp (disch := first | omega | decide +kernel) only [setL, go_sem, zqa, zqb, zqc, zqd, zqe, ↓reduceIte, reduceCtorEq, zqf, zqg, zqh]; rfl) rfl (by simp [setL]) (by decide) (e := 3) (k := 1) (by decide)).trans
      ((Wk.nilObj 900000003 7 2 (by simp (disch := first | omega | decide +kernel) only [setL, go_sem, zqa, zqb, zqc, zqd, zqe, ↓reduceIte, reduceCtorEq, zqf, zqg, zqh]; rfl) rfl (by simp [setL]) (by decide) (e := 26) (k := 1) (by decide)).trans ((Wk.nilObj 900000004 7 3 (by simp (disch := first | omega | decide +kernel) only [setL, go_sem, zqa, zqb, zqc, zqd, zqe, ↓reduceIte, reduceCtorEq, zqf, zqg, zqh]; rfl) rfl (by simp [setL]) (by decide) (e := 81) (k := 3) (by decide)).trans
      ((Wk.deep 900000001 (by simp (disch := first | omega | decide +kernel) only [setL, go_sem, zqa, zqb, zqc, zqd, zqe, ↓reduceIte, reduceCtorEq, zqf, zqg, zqh]; rfl) (by simp [flat])).trans ((Wk.deep 900000003 (by simp (disch := first | omega | decide +kernel) only [setL, go_sem, zqa, zqb, zqc, zqd, zqe, ↓reduceIte, reduceCtorEq, zqf, zqg, zqh]; rfl) (by simp [flat])).trans (by refine Wk.auto ?_ ?_ <;> simp [extraK, lk, killL, St.kill, wipeO, wipeS, AV.has, AV.hasL, AO.wipe, List.map_set, updSt, insL, dropS, ins, setL, D.ints]))))))) ?_
  rintro R0 i ⟨⟨R, M⟩, K⟩ hN0 hE0 hi hs
  obtain ⟨hb, hK, _⟩ := hsp i hi
  rw [← hs] at hb hK
  simp only at hb hK
  by_cases hlt : i < ts.length
  · have hsu := spanS_succ p u ts hlt
    rw [← hs] at hsu
    have hei := el_pr hlt
    have hv := hpv _ (getD_mem (z := ((0, 0, []) : Pr)) hlt)
    have hbd := hb.bd hu
    have hMl := hb.len
    simp only at hbd hMl
    have c1 := l19Reduce_ok hp1 hu hb hK hv
    obtain ⟨f1, f2, f3, f4⟩ := leftF_facts hp hb hv
    have f5 := leftF_nz hp hb hv
    have f6 := rowF_facts hp hb hv
    rw [hK] at c1
    have e1 : (redFQ p R M (ts.getD i (0, 0, [])).2.2 R.length R.length).1 = leftF p ⟨R, M⟩ (ts.getD i (0, 0, [])).2.2 := rfl
    have e2 : (redFQ p R M (ts.getD i (0, 0, [])).2.2 R.length R.length).2 = madeF p ⟨R, M⟩ (ts.getD i (0, 0, [])).2.2 := rfl
    rw [e1, e2] at c1
    unfold keepS addF at hsu
    simp only at hsu
    unfold rowF at hsu f6
    clear hs e1 e2 hsp
    generalize ht : ts.getD i (0, 0, []) = t at *
    obtain ⟨ti, tm, V⟩ := t
    simp only at *
    generalize leftF p ⟨R, M⟩ V = lf at *
    generalize madeF p ⟨R, M⟩ V = md at *
    have hll := f1.1
    have hml := f3.1
    have c2 := l19Lead_ok (v := lf) (by omega)
    by_cases hl : ldFI lf < 0
    · rw [if_pos hl, if_pos hl] at hsu
      simp (disch := first | omega | decide +kernel) only [D.ints, hei, go_sem, zqa, zqb, zqc, zqd, zqe, ↓reduceIte, reduceCtorEq, zqf, zqg, zqh]
      (repeat' (first | ((first | (refine gsel_split (fun q' => ?_) (fun q' => ?_) <;> (have h' := q') <;> (try simp only [decide_eq_true_eq, decide_eq_false_iff_not, zba, zbb, bne_iff_ne, ne_eq, beq_iff_eq, bne_eq_false_iff_eq, beq_eq_false_iff_ne, zia, zib, zic, zid, zda, zbc, zbd, zbe, gt_iff_lt, ge_iff_le] at h') <;> try (exfalso; omega)) | (have q' := trivial; first | refine callX_new (c1) rfl (by decide) ?_ | refine callY_new (c1) rfl ?_ | refine callX_new (c2) rfl (by decide) ?_ | refine callY_new (c2) rfl ?_ | refine hE _ _ ret_ne ?_ | refine hE _ _ exit_ne ?_)) <;> (try simp (disch := first | omega | decide +kernel) only [q', D.ints, hei, go_sem, zqa, zqb, zqc, zqd, zqe, ↓reduceIte, reduceCtorEq, zqf, zqg, zqh]) <;> clear q') | (refine hN _ ?_ ?_ Wk.kk) | (with_reducible refine And.intro ?_ ?_) | (with_reducible omega) | (exact ok_ints) | (exact cells_ints) | (exact no_mem) | (with_reducible exact plain_ints) | (refine le_maxLen ?_; omega) | (refine List.forall_mem_cons.2 ⟨?_, ?_⟩) | (simp only [go_sem, zqc, zqb, List.mem_cons, List.not_mem_nil, forall_eq]; done)))
      all_goals (first | omega | (refine hN0 (⟨R, M⟩, K) _ hlt hsu.symm (by refine Wk.auto ?_ ?_ <;> simp [extraK, lk, killL, St.kill, wipeO, wipeS, AV.has, AV.hasL, AO.wipe, List.map_set, updSt, insL, dropS, ins, D.ints]); done))
    · rw [if_neg hl, if_neg hl] at hsu
      obtain ⟨n1, n2, n3, n4⟩ := f5 hl
      obtain ⟨r1, r2, r3⟩ := f6 hl
      have c3 := l19Invert_ok hp ⟨n1, n2⟩
      obtain ⟨i1, i2, _, _⟩ := invN_ok hp ⟨n1, n2⟩
      rw [n4] at c2 hl
      generalize invN p (lf.getD (ldF lf) 0) = iv at *
      generalize hlf : ldF lf = l at *
      generalize hcc : lf.getD l 0 = c at *
      clear f5 f6
      simp (disch := first | omega | decide +kernel) only [D.ints, hei, hcc, go_sem, zqa, zqb, zqc, zqd, zqe, ↓reduceIte, reduceCtorEq, zqf, zqg, zqh]
      (repeat' (first | ((first | (refine gsel_split (fun q' => ?_) (fun q' => ?_) <;> (have h' := q') <;> (try simp only [decide_eq_true_eq, decide_eq_false_iff_not, zba, zbb, bne_iff_ne, ne_eq, beq_iff_eq, bne_eq_false_iff_eq, beq_eq_false_iff_ne, zia, zib, zic, zid, zda, zbc, zbd, zbe, gt_iff_lt, ge_iff_le] at h') <;> try (exfalso; omega)) | (have q' := trivial; first | refine callX_new (c1) rfl (by decide) ?_ | refine callY_new (c1) rfl ?_ | refine callX_new (c2) rfl (by decide) ?_ | refine callY_new (c2) rfl ?_ | refine callX_new (c3) rfl (by decide) ?_ | refine callY_new (c3) rfl ?_ | refine hE _ _ ret_ne ?_ | refine hE _ _ exit_ne ?_)) <;> (try simp (disch := first | omega | decide +kernel) only [q', D.ints, hei, hcc, go_sem, zqa, zqb, zqc, zqd, zqe, ↓reduceIte, reduceCtorEq, zqf, zqg, zqh]) <;> clear q') | (refine hN _ ?_ ?_ Wk.kk) | (with_reducible refine And.intro ?_ ?_) | (with_reducible omega) | (exact ok_ints) | (exact cells_ints) | (exact no_mem) | (with_reducible exact plain_ints) | (refine le_maxLen ?_; omega) | (refine List.forall_mem_cons.2 ⟨?_, ?_⟩) | (simp only [go_sem, zqc, zqb, List.mem_cons, List.not_mem_nil, forall_eq]; done)))
      all_goals (first | omega | skip)
      have hp0 : ¬ p = 0 := by omega
      refine Ok.loopN [114, 113, 112, 111, 110, 109, 108, 107, 106, 105, 104, 103, 102, 101, 100, 99, 98, 97, 96, 95, 94, 93, 92, 91, 90, 89, 88, 87, 86, 85, 84, 83, 82, 81, 80, 79, 78, 77, 76, 75, 74, 73, 72, 71, 70, 69, 68, 67, 66, 65, 64, 63, 62, 61, 60, 59, 58, 57, 56, 55, 54, 53, 52, 51, 50, 49, 48, 47, 46, 45, 44, 43, 42, 41, 40, 39, 38, 37, 36, 35, 34, 33, 32, 31, 30, 29, 28, 27, 26, 25, 24, 23, 22, 21, 20, 19, 18, 17, 16, 15, 14, 5, 3] (fun j _ => [(14, .d (.int .i64 (j : Nat)))]) (fun _ (v : List Int) => [(3600000, .arr 3 1 (v.map (D.int .i64)))]) lf.length
        (fun i v => v.length = lf.length ∧ ∀ j, v.getD j 0 = if j < i then (lf.getD j 0 * iv) % p else lf.getD j 0) lf ⟨rfl, by simp⟩ (by refine Wk.auto ?_ ?_ <;> simp [extraK, lk, killL, St.kill, wipeO, wipeS, AV.has, AV.hasL, AO.wipe, List.map_set, updSt, insL, dropS, ins, D.ints]) ?_
      rintro R2 j v hN1 hE hj ⟨hvl, hvv⟩
      by_cases hjt : j < lf.length
      · have hvi := hvv j
        rw [if_neg (by omega)] at hvi
        have hai := f1.2 j
        have hkb : 0 ≤ lf.getD j 0 * iv ∧ lf.getD j 0 * iv ≤ 25 := ⟨Int.mul_nonneg hai.1 (by omega), Int.le_trans (Int.mul_le_mul (show lf.getD j 0 ≤ 5 by omega) (show (iv : Int) ≤ 5 by omega) (by omega) (by decide)) (by decide)⟩
        have em : (lf.getD j 0 * iv).tmod p = (lf.getD j 0 * iv) % p := Int.tmod_eq_emod_of_nonneg (by omega)
        have hset : ∀ k, (v.set j ((lf.getD j 0 * iv) % p)).getD k 0 = if k < j + 1 then (lf.getD k 0 * iv) % p else lf.getD k 0 := fun k => by
          rw [getD_set]
          by_cases e : j = k
          · subst e; rw [if_pos ⟨rfl, by omega⟩, if_pos (by omega)]
          · rw [if_neg (fun h => e h.1), hvv k]
            by_cases e2 : k < j
            · rw [if_pos e2, if_pos (by omega)]
            · rw [if_neg e2, if_neg (by omega)]
        clear hvv
        simp (disch := first | omega | decide +kernel) only [D.ints, hvi, em, go_sem, zqa, zqb, zqc, zqd, zqe, ↓reduceIte, reduceCtorEq, zqf, zqg, zqh]
        (repeat' (first | ((first | (refine gsel_split (fun q' => ?_) (fun q' => ?_) <;> (have h' := q') <;> (try simp only [decide_eq_true_eq, decide_eq_false_iff_not, zba, zbb, bne_iff_ne, ne_eq, beq_iff_eq, bne_eq_false_iff_eq, beq_eq_false_iff_ne, zia, zib, zic, zid, zda, zbc, zbd, zbe, gt_iff_lt, ge_iff_le] at h') <;> try (exfalso; omega)) | (have q' := trivial; first | refine hE _ _ ret_ne ?_ | refine hE _ _ exit_ne ?_)) <;> (try simp (disch := first | omega | decide +kernel) only [q', D.ints, hvi, em, go_sem, zqa, zqb, zqc, zqd, zqe, ↓reduceIte, reduceCtorEq, zqf, zqg, zqh]) <;> clear q') | (refine hN _ ?_ ?_ Wk.kk) | (with_reducible refine And.intro ?_ ?_) | (with_reducible omega) | (exact ok_ints) | (exact cells_ints) | (exact no_mem) | (with_reducible exact plain_ints) | (refine le_maxLen ?_; omega) | (refine List.forall_mem_cons.2 ⟨?_, ?_⟩) | (simp only [go_sem, zqc, zqb, List.mem_cons, List.not_mem_nil, forall_eq]; done)))
        all_goals (first | omega | (refine hN1 (v.set j ((lf.getD j 0 * iv) % p)) _ hjt ⟨by simp [hvl], hset⟩ (by refine Wk.auto ?_ ?_ <;> simp [extraK, lk, killL, St.kill, wipeO, wipeS, AV.has, AV.hasL, AO.wipe, List.map_set, updSt, insL, dropS, ins, D.ints]); done))
      · obtain rfl : j = lf.length := by omega
        have hv2 : v = addD p iv (List.replicate (2 ^ u) 0) lf := by
          refine ext_getDz 0 (by rw [hvl, hll, addD_len (by simp; omega)]; simp) fun k hk => ?_
          rw [hvv k, if_pos (by omega), rep_get hll]
        rw [← hv2] at hsu r1 r2 r3
        clear hvv hN1 hv2
        have hvvl := r1.1
        simp (disch := first | omega | decide +kernel) only [D.ints, go_sem, zqa, zqb, zqc, zqd, zqe, ↓reduceIte, reduceCtorEq, zqf, zqg, zqh]
        (repeat' (first | ((first | (refine gsel_split (fun q' => ?_) (fun q' => ?_) <;> (have h' := q') <;> (try simp only [decide_eq_true_eq, decide_eq_false_iff_not, zba, zbb, bne_iff_ne, ne_eq, beq_iff_eq, bne_eq_false_iff_eq, beq_eq_false_iff_ne, zia, zib, zic, zid, zda, zbc, zbd, zbe, gt_iff_lt, ge_iff_le] at h') <;> try (exfalso; omega)) | (have q' := trivial; first | refine hE _ _ ret_ne ?_ | refine hE _ _ exit_ne ?_)) <;> (try simp (disch := first | omega | decide +kernel) only [q', D.ints, go_sem, zqa, zqb, zqc, zqd, zqe, ↓reduceIte, reduceCtorEq, zqf, zqg, zqh]) <;> clear q') | (refine hN _ ?_ ?_ Wk.kk) | (with_reducible refine And.intro ?_ ?_) | (with_reducible omega) | (exact ok_ints) | (exact cells_ints) | (exact no_mem) | (with_reducible exact plain_ints) | (refine le_maxLen ?_; omega) | (refine List.forall_mem_cons.2 ⟨?_, ?_⟩) | (simp only [go_sem, zqc, zqb, List.mem_cons, List.not_mem_nil, forall_eq]; done)))
        all_goals (first | omega | skip)
        refine Ok.loopN [114, 113, 112, 111, 110, 109, 108, 107, 106, 105, 104, 103, 102, 101, 100, 99, 98, 97, 96, 95, 94, 93, 92, 91, 90, 89, 88, 87, 86, 85, 84, 83, 82, 81, 80, 79, 78, 77, 76, 75, 74, 73, 72, 71, 70, 69, 68, 67, 66, 65, 64, 63, 62, 61, 60, 59, 58, 57, 56, 55, 54, 53, 52, 51, 50, 49, 48, 47, 46, 45, 44, 43, 42, 41, 40, 39, 38, 37, 36, 35, 34, 33, 32, 31, 30, 29, 28, 27, 26, 25, 24, 23, 22, 21, 20, 19, 18, 17, 16, 15, 14, 5, 3] (fun j _ => [(15, .d (.int .i64 (j : Nat)))]) (fun _ (w : List Int) => [(3600001, .arr 3 1 (w.map (D.int .i64)))]) md.length
          (fun i w => w.length = md.length ∧ ∀ j, w.getD j 0 = if j < i then ((p - md.getD j 0) * iv) % p else md.getD j 0) md ⟨rfl, by simp⟩ (by refine Wk.auto ?_ ?_ <;> simp [extraK, lk, killL, St.kill, wipeO, wipeS, AV.has, AV.hasL, AO.wipe, List.map_set, updSt, insL, dropS, ins, D.ints]) ?_
        rintro R3 j w hN2 hE hj ⟨hwl, hwv⟩
        by_cases hjt : j < md.length
        · have hwi := hwv j
          rw [if_neg (by omega)] at hwi
          have hai := f3.2 j
          have hkb : 0 ≤ (p - md.getD j 0) * iv ∧ (p - md.getD j 0) * iv ≤ 25 := ⟨Int.mul_nonneg (by omega) (by omega), Int.le_trans (Int.mul_le_mul (show p - md.getD j 0 ≤ 5 by omega) (show (iv : Int) ≤ 5 by omega) (by omega) (by decide)) (by decide)⟩
          have em : ((p - md.getD j 0) * iv).tmod p = ((p - md.getD j 0) * iv) % p := Int.tmod_eq_emod_of_nonneg (by omega)
          have hset : ∀ k, (w.set j (((p - md.getD j 0) * iv) % p)).getD k 0 = if k < j + 1 then ((p - md.getD k 0) * iv) % p else md.getD k 0 := fun k => by
            rw [getD_set]
            by_cases e : j = k
            · subst e; rw [if_pos ⟨rfl, by omega⟩, if_pos (by omega)]
            · rw [if_neg (fun h => e h.1), hwv k]
              by_cases e2 : k < j
              · rw [if_pos e2, if_pos (by omega)]
              · rw [if_neg e2, if_neg (by omega)]
          clear hwv
          simp (disch := first | omega | decide +kernel) only [D.ints, hwi, em, go_sem, zqa, zqb, zqc, zqd, zqe, ↓reduceIte, reduceCtorEq, zqf, zqg, zqh]
          (repeat' (first | ((first | (refine gsel_split (fun q' => ?_) (fun q' => ?_) <;> (have h' := q') <;> (try simp only [decide_eq_true_eq, decide_eq_false_iff_not, zba, zbb, bne_iff_ne, ne_eq, beq_iff_eq, bne_eq_false_iff_eq, beq_eq_false_iff_ne, zia, zib, zic, zid, zda, zbc, zbd, zbe, gt_iff_lt, ge_iff_le] at h') <;> try (exfalso; omega)) | (have q' := trivial; first | refine hE _ _ ret_ne ?_ | refine hE _ _ exit_ne ?_)) <;> (try simp (disch := first | omega | decide +kernel) only [q', D.ints, hwi, em, go_sem, zqa, zqb, zqc, zqd, zqe, ↓reduceIte, reduceCtorEq, zqf, zqg, zqh]) <;> clear q') | (refine hN _ ?_ ?_ Wk.kk) | (with_reducible refine And.intro ?_ ?_) | (with_reducible omega) | (exact ok_ints) | (exact cells_ints) | (exact no_mem) | (with_reducible exact plain_ints) | (refine le_maxLen ?_; omega) | (refine List.forall_mem_cons.2 ⟨?_, ?_⟩) | (simp only [go_sem, zqc, zqb, List.mem_cons, List.not_mem_nil, forall_eq]; done)))
          all_goals (first | omega | (refine hN2 (w.set j (((p - md.getD j 0) * iv) % p)) _ hjt ⟨by simp [hwl], hset⟩ (by refine Wk.auto ?_ ?_ <;> simp [extraK, lk, killL, St.kill, wipeO, wipeS, AV.has, AV.hasL, AO.wipe, List.map_set, updSt, insL, dropS, ins, D.ints]); done))
        · obtain rfl : j = md.length := by omega
          have hw2 : ownV p iv md = w ++ [(iv : Int)] := by
            unfold ownV
            congr 1
            refine ext_getDz 0 (by simp [hwl]) fun k hk => ?_
            rw [List.length_map] at hk
            rw [hwv k, if_pos hk, getD_mapY (fun n => (p - n) * (iv : Int) % p) 0 0 md hk]
          rw [hw2] at hsu
          have hbare : ∀ x ∈ flat (List.map (D.int .i64) w ++ [D.int .i64 (iv : Int)]), x.bare = true := by
            have := of_eq_true (bare_ints (k := .i64) (w ++ [(iv : Int)]))
            rwa [List.map_append] at this
          clear hwv hN2 hw2
          simp (disch := first | omega | decide +kernel) only [D.ints, hei, go_sem, zqa, zqb, zqc, zqd, zqe, ↓reduceIte, reduceCtorEq, zqf, zqg, zqh]
          (repeat' (first | ((first | (refine gsel_split (fun q' => ?_) (fun q' => ?_) <;> (have h' := q') <;> (try simp only [decide_eq_true_eq, decide_eq_false_iff_not, zba, zbb, bne_iff_ne, ne_eq, beq_iff_eq, bne_eq_false_iff_eq, beq_eq_false_iff_ne, zia, zib, zic, zid, zda, zbc, zbd, zbe, gt_iff_lt, ge_iff_le] at h') <;> try (exfalso; omega)) | (have q' := trivial; first | refine hE _ _ ret_ne ?_ | refine hE _ _ exit_ne ?_)) <;> (try simp (disch := first | omega | decide +kernel) only [q', D.ints, hei, go_sem, zqa, zqb, zqc, zqd, zqe, ↓reduceIte, reduceCtorEq, zqf, zqg, zqh]) <;> clear q') | (refine hN _ ?_ ?_ Wk.kk) | (with_reducible refine And.intro ?_ ?_) | (with_reducible omega) | (exact ok_ints) | (exact cells_ints) | (exact no_mem) | (with_reducible exact plain_ints) | (refine le_maxLen ?_; omega) | (refine List.forall_mem_cons.2 ⟨?_, ?_⟩) | (simp only [go_sem, zqc, zqb, List.mem_cons, List.not_mem_nil, forall_eq]; done)))
          all_goals (first | omega | exact hbare | (rw [ok_agg]; simp [D.atom]; done) | (refine hN0 (⟨R ++ [v], M ++ [w ++ [(iv : Int)]]⟩, K ++ [(ti, tm, V)]) _ hlt hsu.symm (by refine Wk.auto ?_ ?_ <;> simp [extraK, lk, killL, St.kill, wipeO, wipeS, AV.has, AV.hasL, AO.wipe, List.map_set, updSt, insL, dropS, ins, D.ints, List.map_append, List.map_cons, List.map_nil, r2]); done))
  · obtain rfl : i = ts.length := by omega
    rw [List.take_length] at hs
    rw [← hs] at hE0
    have hE := hE0
    simp (disch := first | omega | decide +kernel) only [D.ints, go_sem, zqa, zqb, zqc, zqd, zqe, ↓reduceIte, reduceCtorEq, zqf, zqg, zqh]
    (repeat' (first | ((first | (refine gsel_split (fun q' => ?_) (fun q' => ?_) <;> (have h' := q') <;> (try simp only [decide_eq_true_eq, decide_eq_false_iff_not, zba, zbb, bne_iff_ne, ne_eq, beq_iff_eq, bne_eq_false_iff_eq, beq_eq_false_iff_ne, zia, zib, zic, zid, zda, zbc, zbd, zbe, gt_iff_lt, ge_iff_le] at h') <;> try (exfalso; omega)) | (have q' := trivial; first | refine hE _ _ ret_ne ?_ | refine hE _ _ exit_ne ?_)) <;> (try simp (disch := first | omega | decide +kernel) only [q', D.ints, go_sem, zqa, zqb, zqc, zqd, zqe, ↓reduceIte, reduceCtorEq, zqf, zqg, zqh]) <;> clear q') | (refine hN _ ?_ ?_ Wk.kk) | (with_reducible refine And.intro ?_ ?_) | (with_reducible omega) | (exact ok_ints) | (exact cells_ints) | (exact no_mem) | (with_reducible exact plain_ints) | (refine le_maxLen ?_; omega) | (refine List.forall_mem_cons.2 ⟨?_, ?_⟩) | (simp only [go_sem, zqc, zqb, List.mem_cons, List.not_mem_nil, forall_eq]; done)))
    all_goals (first | omega | exact ret_scb [900000001, 900000002, 900000003, 900000004] rfl rfl rfl rfl rfl rfl)
end
end Abs.Y

namespace Go.Proofs
open Go.Shelf Go.RowKit Go.Lib Go.Sort
def Tryz.layS_ren : Go.Shelf.Ren := ⟨fun | 6 => 88 | 15 => 55 | 14 => 96 | 28 => 79 | 29 => 80 | 20 => 98 | 21 => 99 | 22 => 100 | 23 => 101 | 24 => 102 | 25 => 103 | 26 => 104 | 27 => 105 | 46 => 106 | 47 => 90 | 48 => 91 | 49 => 107 | 50 => 108 | 57 => 109 | n => n, fun | 22 => 26 | 24 => 3 | 25 => 45 | 3 => 3 | 39 => 96 | 0 => 0 | 53 => 116 | 55 => 118 | 4 => 4 | 46 => 109 | 45 => 108 | 50 => 113 | 5 => 5 | 9 => 9 | 66 => 121 | 70 => 125 | 76 => 128 | 77 => 129 | n => n, fun | n => n⟩
theorem Tryz.layS : Go.Proofs.SlLaysF.n6 Tryz.prog Tryz.layS_ren := {
  mixed := by kernel_rfl
  f6 := ⟨Tryz.f88.name, by decide, Tryz.func88.trans (congrArg some (by kernel_rfl))⟩
  f14 := ⟨Tryz.f96.name, by decide, Tryz.func96.trans (congrArg some (by kernel_rfl))⟩
  f15 := Tryz.func55.trans (congrArg some (by kernel_rfl))
  f20 := ⟨Tryz.f98.name, by decide, Tryz.func98.trans (congrArg some (by kernel_rfl))⟩
  f21 := ⟨Tryz.f99.name, by decide, Tryz.func99.trans (congrArg some (by kernel_rfl))⟩
  f22 := ⟨Tryz.f100.name, by decide, Tryz.func100.trans (congrArg some (by kernel_rfl))⟩
  f23 := ⟨Tryz.f101.name, by decide, Tryz.func101.trans (congrArg some (by kernel_rfl))⟩
  f24 := ⟨Tryz.f102.name, by decide, Tryz.func102.trans (congrArg some (by kernel_rfl))⟩
  f25 := ⟨Tryz.f103.name, by decide, Tryz.func103.trans (congrArg some (by kernel_rfl))⟩
  f26 := ⟨Tryz.f104.name, by decide, Tryz.func104.trans (congrArg some (by kernel_rfl))⟩
  f27 := ⟨Tryz.f105.name, by decide, Tryz.func105.trans (congrArg some (by kernel_rfl))⟩
  f28 := Tryz.func79.trans (congrArg some (by kernel_rfl))
  f29 := Tryz.func80.trans (congrArg some (by kernel_rfl))
  f46 := ⟨Tryz.f106.name, by decide, Tryz.func106.trans (congrArg some (by kernel_rfl))⟩
  f47 := Tryz.func90.trans (congrArg some (by kernel_rfl))
  f48 := Tryz.func91.trans (congrArg some (by kernel_rfl))
  f49 := ⟨Tryz.f107.name, by decide, Tryz.func107.trans (congrArg some (by kernel_rfl))⟩
  f50 := ⟨Tryz.f108.name, by decide, Tryz.func108.trans (congrArg some (by kernel_rfl))⟩
  f57 := ⟨Tryz.f109.name, by decide, Tryz.func109.trans (congrArg some (by kernel_rfl))⟩
  t0 := Tryz.underlying0
  a0 := Tryz.isAgg0
  z0 := Tryz.sizeOf0
  v0 := Tryz.zeroValue0
  t3 := Tryz.underlying3
  a3 := Tryz.isAgg3
  z3 := Tryz.sizeOf3
  v3 := Tryz.zeroValue3
  t4 := Tryz.underlying4
  a4 := Tryz.isAgg4
  z4 := Tryz.sizeOf4
  v4 := Tryz.zeroValue4
  t5 := Tryz.underlying5
  a5 := Tryz.isAgg5
  z5 := Tryz.sizeOf5
  v5 := Tryz.zeroValue5
  t9 := Tryz.underlying9
  a9 := Tryz.isAgg9
  z9 := Tryz.sizeOf9
  v9 := Tryz.zeroValue9
  t22 := Tryz.underlying26
  a22 := Tryz.isAgg26
  z22 := Tryz.sizeOf26
  v22 := Tryz.zeroValue26
  a24 := Tryz.isAgg3
  z24 := Tryz.sizeOf3
  t25 := Tryz.underlying45
  a25 := Tryz.isAgg45
  z25 := Tryz.sizeOf45
  v25 := Tryz.zeroValue45
  t39 := Tryz.underlying96
  a39 := Tryz.isAgg96
  z39 := Tryz.sizeOf96
  v39 := Tryz.zeroValue96
  t45 := Tryz.underlying108
  a45 := Tryz.isAgg108
  z45 := Tryz.sizeOf108
  v45 := Tryz.zeroValue108
  t46 := Tryz.underlying109
  a46 := Tryz.isAgg109
  z46 := Tryz.sizeOf109
  v46 := Tryz.zeroValue109
  t50 := Tryz.underlying113
  a50 := Tryz.isAgg113
  z50 := Tryz.sizeOf113
  v50 := Tryz.zeroValue113
  t53 := Tryz.underlying116
  a53 := Tryz.isAgg116
  z53 := Tryz.sizeOf116
  v53 := Tryz.zeroValue116
  t55 := Tryz.underlying118
  a55 := Tryz.isAgg118
  z55 := Tryz.sizeOf118
  v55 := Tryz.zeroValue118
  t66 := Tryz.underlying121
  a66 := Tryz.isAgg121
  z66 := Tryz.sizeOf121
  v66 := Tryz.zeroValue121
  t70 := Tryz.underlying125
  a70 := Tryz.isAgg125
  z70 := Tryz.sizeOf125
  v70 := Tryz.zeroValue125
  t76 := Tryz.underlying128
  a76 := Tryz.isAgg128
  z76 := Tryz.sizeOf128
  v76 := Tryz.zeroValue128
  t77 := Tryz.underlying129
  a77 := Tryz.isAgg129
  z77 := Tryz.sizeOf129
  v77 := Tryz.zeroValue129 }
def Tryz.layQ_ren : Go.Shelf.Ren := ⟨fun | 14 => 54 | 20 => 71 | 21 => 72 | 22 => 73 | 23 => 74 | 24 => 75 | 25 => 76 | 26 => 77 | 27 => 78 | 46 => 89 | 47 => 90 | 48 => 91 | 49 => 92 | 50 => 93 | 15 => 55 | 57 => 97 | 28 => 79 | 29 => 80 | n => n, fun | 24 => 56 | 22 => 62 | 3 => 3 | 25 => 70 | 4 => 4 | 0 => 0 | 46 => 109 | 45 => 108 | 50 => 113 | 66 => 121 | 39 => 96 | 55 => 118 | 70 => 125 | 76 => 128 | 77 => 129 | 53 => 116 | 5 => 5 | 9 => 9 | n => n, fun | n => n⟩
theorem Tryz.layQ : Go.Proofs.SlLaysF.n14 Tryz.prog Tryz.layQ_ren := {
  mixed := by kernel_rfl
  f14 := ⟨Tryz.f54.name, by decide, Tryz.func54.trans (congrArg some (by kernel_rfl))⟩
  f15 := Tryz.func55.trans (congrArg some (by kernel_rfl))
  f20 := ⟨Tryz.f71.name, by decide, Tryz.func71.trans (congrArg some (by kernel_rfl))⟩
  f21 := ⟨Tryz.f72.name, by decide, Tryz.func72.trans (congrArg some (by kernel_rfl))⟩
  f22 := ⟨Tryz.f73.name, by decide, Tryz.func73.trans (congrArg some (by kernel_rfl))⟩
  f23 := ⟨Tryz.f74.name, by decide, Tryz.func74.trans (congrArg some (by kernel_rfl))⟩
  f24 := ⟨Tryz.f75.name, by decide, Tryz.func75.trans (congrArg some (by kernel_rfl))⟩
  f25 := ⟨Tryz.f76.name, by decide, Tryz.func76.trans (congrArg some (by kernel_rfl))⟩
  f26 := ⟨Tryz.f77.name, by decide, Tryz.func77.trans (congrArg some (by kernel_rfl))⟩
  f27 := ⟨Tryz.f78.name, by decide, Tryz.func78.trans (congrArg some (by kernel_rfl))⟩
  f28 := Tryz.func79.trans (congrArg some (by kernel_rfl))
  f29 := Tryz.func80.trans (congrArg some (by kernel_rfl))
  f46 := ⟨Tryz.f89.name, by decide, Tryz.func89.trans (congrArg some (by kernel_rfl))⟩
  f47 := Tryz.func90.trans (congrArg some (by kernel_rfl))
  f48 := Tryz.func91.trans (congrArg some (by kernel_rfl))
  f49 := ⟨Tryz.f92.name, by decide, Tryz.func92.trans (congrArg some (by kernel_rfl))⟩
  f50 := ⟨Tryz.f93.name, by decide, Tryz.func93.trans (congrArg some (by kernel_rfl))⟩
  f57 := ⟨Tryz.f97.name, by decide, Tryz.func97.trans (congrArg some (by kernel_rfl))⟩
  t0 := Tryz.underlying0
  a0 := Tryz.isAgg0
  z0 := Tryz.sizeOf0
  v0 := Tryz.zeroValue0
  t3 := Tryz.underlying3
  a3 := Tryz.isAgg3
  z3 := Tryz.sizeOf3
  v3 := Tryz.zeroValue3
  t4 := Tryz.underlying4
  a4 := Tryz.isAgg4
  z4 := Tryz.sizeOf4
  v4 := Tryz.zeroValue4
  t5 := Tryz.underlying5
  a5 := Tryz.isAgg5
  z5 := Tryz.sizeOf5
  v5 := Tryz.zeroValue5
  t9 := Tryz.underlying9
  a9 := Tryz.isAgg9
  z9 := Tryz.sizeOf9
  v9 := Tryz.zeroValue9
  t22 := Tryz.underlying62
  a22 := Tryz.isAgg62
  z22 := Tryz.sizeOf62
  v22 := Tryz.zeroValue62
  a24 := Tryz.isAgg56
  z24 := Tryz.sizeOf56
  t25 := Tryz.underlying70
  a25 := Tryz.isAgg70
  z25 := Tryz.sizeOf70
  v25 := Tryz.zeroValue70
  t39 := Tryz.underlying96
  a39 := Tryz.isAgg96
  z39 := Tryz.sizeOf96
  v39 := Tryz.zeroValue96
  t45 := Tryz.underlying108
  a45 := Tryz.isAgg108
  z45 := Tryz.sizeOf108
  v45 := Tryz.zeroValue108
  t46 := Tryz.underlying109
  a46 := Tryz.isAgg109
  z46 := Tryz.sizeOf109
  v46 := Tryz.zeroValue109
  t50 := Tryz.underlying113
  a50 := Tryz.isAgg113
  z50 := Tryz.sizeOf113
  v50 := Tryz.zeroValue113
  t53 := Tryz.underlying116
  a53 := Tryz.isAgg116
  z53 := Tryz.sizeOf116
  v53 := Tryz.zeroValue116
  t55 := Tryz.underlying118
  a55 := Tryz.isAgg118
  z55 := Tryz.sizeOf118
  v55 := Tryz.zeroValue118
  t66 := Tryz.underlying121
  a66 := Tryz.isAgg121
  z66 := Tryz.sizeOf121
  v66 := Tryz.zeroValue121
  t70 := Tryz.underlying125
  a70 := Tryz.isAgg125
  z70 := Tryz.sizeOf125
  v70 := Tryz.zeroValue125
  t76 := Tryz.underlying128
  a76 := Tryz.isAgg128
  z76 := Tryz.sizeOf128
  v76 := Tryz.zeroValue128
  t77 := Tryz.underlying129
  a77 := Tryz.isAgg129
  z77 := Tryz.sizeOf129
  v77 := Tryz.zeroValue129 }
theorem Tryz.len_w (n : Nat) (hn : n ≤ 4294967296) (W : World) : Calls Tryz.prog 55 #[.int .u64 (n : Int)] W fun e w' => e = .returned (.int .i64 (Lib.bitLen n : Nat)) ∧ w' = W := by
  have h := Any.bits_Len (SlLaysF0.n15.bits (P := Tryz.prog) { Tryz.layS with }) (n : Int) W (by omega) (by omega)
  rwa [Int.toNat_natCast] at h
end Go.Proofs

namespace Abs
open Go Go.RowKit Go.Sort Go.Proofs Go.Shelf

end Abs
