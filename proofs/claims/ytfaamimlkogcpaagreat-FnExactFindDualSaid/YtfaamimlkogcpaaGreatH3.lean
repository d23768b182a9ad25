/- What functions of this program compute, as contracts over plain data, with what the proofs need of them. No condition. -/
import Derived.Test.YtfaamimlkogcpaaGreatH2
import Derived.Test.YtfaamimlkogcpaaGreatD2
set_option linter.all false
namespace Abs
open Go Go.Proofs
theorem ret_sl2 {P : Program} {t u i1 i2 : Nat} {e1 e2 : TypeId} {k1 k2 : Nat} {x1 x2 : List D} {st : St} (h : lk t st.s = some (.sl i1)) (h' : lk u st.s = some (.sl i2)) (h1 : lk i1 st.o = some (.arr e1 k1 x1)) (h2 : lk i2 st.o = some (.arr e2 k2 x2)) (hne : i1 ≠ i2)
    (hp1 : ∀ x ∈ x1, x.plain = true) (hp2 : ∀ x ∈ x2, x.plain = true) : retQ P [.tmp t, .tmp u] false (.tup [.sl 0, .sl 1]) [(0, .arr e1 k1 x1), (1, .arr e2 k2 x2)] .ret st := by
  refine .inl ?_
  simp only [retO, resV, h, h']
  exact ⟨trivial, .two i1 i2 hne (by simp [oneOf, AV.ren, AV.renL, nth]) h1 h2, .inr ⟨⟨trivial, trivial, trivial⟩, hp1, hp2, trivial⟩⟩
end Abs
namespace Abs.Y
open Go Go.Proofs Abs
open Nat renaming reduceEqDiff → zqa, reduceLT → zqb, reduceAdd → zqc, reduceMul → zqd, reduceSub → zqe, reduceLeDiff → zqf, reduceSubDiff → zqg, reduceBEq → zqh
open Bool renaming not_eq_true' → zba, not_eq_false' → zbb, and_eq_true → zbc, or_eq_true → zbd, or_eq_false_iff → zbe
open Int renaming ofNat_lt → zia, ofNat_le → zib, not_lt → zic, not_le → zid
open Decidable renaming not_not → zda
set_option maxRecDepth 100000

@[reducible] def D.base (R M : List (List Int)) (K : List Pr) : D := .agg [.slice (R.map D.ints), .slice ((R.map fun r => ((ldF r : Nat) : Int)).map (.int .i64)), .slice (M.map D.ints), .slice (K.map D.pr)]
theorem getD_mapY {α β : Type} (f : α → β) (z : α) (z' : β) (l : List α) {i : Nat} (h : i < l.length) : (l.map f).getD i z' = f (l.getD i z) := by
  simp [List.getD_eq_getElem?_getD, h]
theorem el_leads {R : List (List Int)} {i : Nat} (h : i < R.length) : el ((R.map fun r => ((ldF r : Nat) : Int)).map (D.int .i64)) i = .int .i64 (ldF (R.getD i []) : Nat) := by
  rw [el_ints (by simpa using h), getD_mapY (fun r => ((ldF r : Nat) : Int)) [] 0 R h]
section
variable {p : Int} {u : Nat} (hp : 1 < p ∧ p ≤ 5) (hu : u ≤ 6)
include hp hu
set_option maxHeartbeats 8000000 in
theorem l19Reduce_ok {R M : List (List Int)} {K : List Pr} {a : List Int} (h : BaseI p u ⟨R, M⟩) (hK : K.length = R.length) (ha : Vec p (2 ^ u) a) :
    Ctr Tryz.prog 42 [.int .i64 p, D.base R M K, .ints a] false (.tup [.sl 0, .sl 1]) [(0, .arr 3 1 ((redFQ p R M a K.length R.length).1.map (.int .i64))), (1, .arr 3 1 ((redFQ p R M a K.length R.length).2.map (.int .i64)))] := by
  have h2 := pow_le6 hu
  have hb := h.bd hu
  have hvec := h.vec
  have hmad := h.mad
  have hml := h.len
  have hnz := fun r (hr : r ∈ R) => h.nz hr
  simp only at hb hvec hmad hml
  have hal := ha.1
  have h0 : 0 < 2 ^ u := Nat.two_pow_pos u
  have er : List.replicate K.length (D.int .i64 0) = (List.replicate K.length (0 : Int)).map (D.int .i64) := by simp
  obtain ⟨a0, ar, hae⟩ : ∃ a0 ar, a = a0 :: ar := by
    cases a with
    | nil => simp at hal; omega
    | cons x r => exact ⟨x, r, rfl⟩
  have ham : List.map (D.int .i64) a = D.int .i64 a0 :: List.map (D.int .i64) ar := by rw [hae]; rfl
  have hrl : ar.length + 1 = 2 ^ u := by rw [← hal, hae]; rfl
  refine Ctr.of (n := 104) (rs := [.tmp 6, .tmp 7]) Tryz.func42 rfl rfl Tryz.ntmps42 rfl rfl (by kernel_rfl) Tryz.checked.mixed ?_
  simp (disch := first | omega | decide +kernel) only [D.ints, er, ham, go_sem, zqa, zqb, zqc, zqd, zqe, ↓reduceIte, reduceCtorEq, zqf, zqg, zqh]
  (repeat' (first | ((first | (refine gsel_split (fun q' => ?_) (fun q' => ?_) <;> (have h' := q') <;> (try simp only [decide_eq_true_eq, decide_eq_false_iff_not, zba, zbb, bne_iff_ne, ne_eq, beq_iff_eq, bne_eq_false_iff_eq, beq_eq_false_iff_ne, zia, zib, zic, zid, zda, zbc, zbd, zbe, gt_iff_lt, ge_iff_le] at h') <;> try (exfalso; omega)) | (have q' := trivial; first | refine hE _ _ ret_ne ?_ | refine hE _ _ exit_ne ?_)) <;> (try simp (disch := first | omega | decide +kernel) only [q', D.ints, er, ham, go_sem, zqa, zqb, zqc, zqd, zqe, ↓reduceIte, reduceCtorEq, zqf, zqg, zqh]) <;> clear q') | (refine hN _ ?_ ?_ Wk.kk) | (with_reducible refine And.intro ?_ ?_) | (with_reducible omega) | (exact ok_ints) | (exact cells_ints) | (exact no_mem) | (with_reducible exact plain_ints) | (refine le_maxLen ?_; omega) | (refine List.forall_mem_cons.2 ⟨?_, ?_⟩) | (simp only [go_sem, zqc, zqb, List.mem_cons, List.not_mem_nil, forall_eq]; done)))
  all_goals (first | omega | skip)
  refine Ok.loopN [103, 102, 101, 100, 99, 98, 97, 96, 95, 94, 93, 92, 91, 90, 89, 88, 87, 86, 85, 84, 83, 82, 81, 80, 79, 78, 77, 76, 75, 74, 73, 72, 71, 70, 69, 68, 67, 66, 65, 64, 63, 62, 61, 60, 59, 58, 57, 56, 55, 54, 53, 52, 51, 50, 49, 48, 47, 46, 45, 44, 43, 42, 41, 40, 39, 38, 37, 36, 35, 34, 33, 32, 31, 30, 29, 28, 27, 26, 25, 24, 23, 22, 21, 20, 19, 18, 17, 16, 15, 14, 13, 12, 11, 10, 7, 6, 5, 3] (fun i (s : List Int × List Int) => [(10, .d (.int .i64 (i : Nat)))]) (fun _ (s : List Int × List Int) => [(16, .arr 3 1 (s.1.map (D.int .i64))), (20, .arr 3 1 (s.2.map (D.int .i64)))]) R.length
    (fun i s => s = redFQ p R M a K.length i) (a, List.replicate K.length 0) rfl (by refine Wk.auto ?_ ?_ <;> simp [extraK, lk, killL, St.kill, wipeO, wipeS, AV.has, AV.hasL, AO.wipe, List.map_set, updSt, insL, dropS, ins, D.ints, ham]) ?_
  rintro R0 i ⟨x, y⟩ hN0 hE0 hi hs
  have hv := redFQ_vec (p := p) (by omega) (M := M) (many := K.length) hvec ha i (by omega)
  rw [← hs] at hv
  obtain ⟨hx, hy⟩ := hv
  simp only at hx hy
  by_cases hlt : i < R.length
  · have hsu := redFQ_succ p R M a K.length i
    rw [← hs] at hsu
    unfold redFP at hsu
    simp only at hsu
    have hrm : R.getD i [] ∈ R := getD_mem (z := ([] : List Int)) hlt
    have hmm : M.getD i [] ∈ M := getD_mem (z := ([] : List Int)) (by omega)
    have hr := hvec _ hrm
    obtain ⟨hmd1, hmd2⟩ := hmad _ hmm
    have hld := el_leads hlt
    have hei := el_intss (xs := R) hlt
    have hem := el_intss (xs := M) (i := i) (by omega)
    obtain ⟨hl1, hl2, hl3, _⟩ := (ldFI_or (R.getD i [])).resolve_left fun h => hnz _ hrm (by rw [h.1]; decide)
    clear hs
    have hRl : (List.map (fun r => ((ldF r : Nat) : Int)) R).length = R.length := by simp
    generalize hrr : R.getD i [] = r at *
    generalize hmr : M.getD i [] = m at *
    generalize ldF r = l at *
    have hxl := hx.2 l
    have hxn := hx.1
    have hrn := hr.1
    have hyn := hy.1
    generalize hc : x.getD l 0 = c at *
    by_cases hz : c = 0
    · rw [if_pos hz] at hsu
      have hb : (c != 0) = false := by rw [hz]; rfl
      simp (disch := first | omega | decide +kernel) only [D.ints, hld, hc, go_sem, zqa, zqb, zqc, zqd, zqe, ↓reduceIte, reduceCtorEq, zqf, zqg, zqh]
      (repeat' (first | ((first | (refine gsel_split (fun q' => ?_) (fun q' => ?_) <;> (have h' := q') <;> (try simp only [decide_eq_true_eq, decide_eq_false_iff_not, zba, zbb, bne_iff_ne, ne_eq, beq_iff_eq, bne_eq_false_iff_eq, beq_eq_false_iff_ne, zia, zib, zic, zid, zda, zbc, zbd, zbe, gt_iff_lt, ge_iff_le] at h') <;> try (exfalso; omega)) | (have q' := trivial; first | refine hE _ _ ret_ne ?_ | refine hE _ _ exit_ne ?_)) <;> (try simp (disch := first | omega | decide +kernel) only [q', D.ints, hld, hc, go_sem, zqa, zqb, zqc, zqd, zqe, ↓reduceIte, reduceCtorEq, zqf, zqg, zqh]) <;> clear q') | (refine hN _ ?_ ?_ Wk.kk) | (with_reducible refine And.intro ?_ ?_) | (with_reducible omega) | (exact ok_ints) | (exact cells_ints) | (exact no_mem) | (with_reducible exact plain_ints) | (refine le_maxLen ?_; omega) | (refine List.forall_mem_cons.2 ⟨?_, ?_⟩) | (simp only [go_sem, zqc, zqb, List.mem_cons, List.not_mem_nil, forall_eq]; done)))
      all_goals (first | omega | skip)
      refine Ok.loopN [103, 102, 101, 100, 99, 98, 97, 96, 95, 94, 93, 92, 91, 90, 89, 88, 87, 86, 85, 84, 83, 82, 81, 80, 79, 78, 77, 76, 75, 74, 73, 72, 71, 70, 69, 68, 67, 66, 65, 64, 63, 62, 61, 60, 59, 58, 57, 56, 55, 54, 53, 52, 51, 50, 49, 48, 47, 46, 45, 44, 43, 42, 41, 40, 39, 38, 37, 36, 35, 34, 33, 32, 31, 30, 29, 28, 27, 26, 25, 24, 23, 22, 21, 20, 19, 18, 17, 16, 15, 14, 13, 12, 7, 6, 5, 3] (fun j (_ : Unit) => [(12, .d (.int .i64 (j : Nat)))]) (fun _ _ => []) 1
        (fun j _ => j = 0) () rfl (by refine Wk.auto ?_ ?_ <;> simp [extraK, lk, killL, St.kill, wipeO, wipeS, AV.has, AV.hasL, AO.wipe, List.map_set, updSt, insL, dropS, ins, D.ints]) ?_
      rintro R2 j ⟨⟩ hN hE hj hj0
      subst hj0
      clear hN
      simp (disch := first | omega | decide +kernel) only [D.ints, hb, go_sem, zqa, zqb, zqc, zqd, zqe, ↓reduceIte, reduceCtorEq, zqf, zqg, zqh]
      (repeat' (first | ((first | (refine gsel_split (fun q' => ?_) (fun q' => ?_) <;> (have h' := q') <;> (try simp only [decide_eq_true_eq, decide_eq_false_iff_not, zba, zbb, bne_iff_ne, ne_eq, beq_iff_eq, bne_eq_false_iff_eq, beq_eq_false_iff_ne, zia, zib, zic, zid, zda, zbc, zbd, zbe, gt_iff_lt, ge_iff_le] at h') <;> try (exfalso; omega)) | (have q' := trivial; first | refine hE _ _ ret_ne ?_ | refine hE _ _ exit_ne ?_)) <;> (try simp (disch := first | omega | decide +kernel) only [q', D.ints, hb, go_sem, zqa, zqb, zqc, zqd, zqe, ↓reduceIte, reduceCtorEq, zqf, zqg, zqh]) <;> clear q') | (refine hN _ ?_ ?_ Wk.kk) | (with_reducible refine And.intro ?_ ?_) | (with_reducible omega) | (exact ok_ints) | (exact cells_ints) | (exact no_mem) | (with_reducible exact plain_ints) | (refine le_maxLen ?_; omega) | (refine List.forall_mem_cons.2 ⟨?_, ?_⟩) | (simp only [go_sem, zqc, zqb, List.mem_cons, List.not_mem_nil, forall_eq]; done)))
      all_goals (first | omega | skip)
      refine Ok.loopN [103, 102, 101, 100, 99, 98, 97, 96, 95, 94, 93, 92, 91, 90, 89, 88, 87, 86, 85, 84, 83, 82, 81, 80, 79, 78, 77, 76, 75, 74, 73, 72, 71, 70, 69, 68, 67, 66, 65, 64, 63, 62, 61, 60, 59, 58, 57, 56, 55, 54, 53, 52, 51, 50, 49, 48, 47, 46, 45, 44, 43, 42, 41, 40, 39, 38, 37, 36, 35, 34, 33, 32, 31, 30, 29, 28, 27, 26, 25, 24, 23, 22, 21, 20, 19, 18, 17, 16, 15, 14, 13, 12, 7, 6, 5, 3] (fun j (_ : Unit) => [(13, .d (.int .i64 (j : Nat)))]) (fun _ _ => []) 1
        (fun j _ => j = 0) () rfl (by refine Wk.auto ?_ ?_ <;> simp [extraK, lk, killL, St.kill, wipeO, wipeS, AV.has, AV.hasL, AO.wipe, List.map_set, updSt, insL, dropS, ins, D.ints]) ?_
      rintro R3 j ⟨⟩ hN hE hj hj0
      subst hj0
      clear hN
      simp (disch := first | omega | decide +kernel) only [D.ints, hb, hem, go_sem, zqa, zqb, zqc, zqd, zqe, ↓reduceIte, reduceCtorEq, zqf, zqg, zqh]
      (repeat' (first | ((first | (refine gsel_split (fun q' => ?_) (fun q' => ?_) <;> (have h' := q') <;> (try simp only [decide_eq_true_eq, decide_eq_false_iff_not, zba, zbb, bne_iff_ne, ne_eq, beq_iff_eq, bne_eq_false_iff_eq, beq_eq_false_iff_ne, zia, zib, zic, zid, zda, zbc, zbd, zbe, gt_iff_lt, ge_iff_le] at h') <;> try (exfalso; omega)) | (have q' := trivial; first | refine hE _ _ ret_ne ?_ | refine hE _ _ exit_ne ?_)) <;> (try simp (disch := first | omega | decide +kernel) only [q', D.ints, hb, hem, go_sem, zqa, zqb, zqc, zqd, zqe, ↓reduceIte, reduceCtorEq, zqf, zqg, zqh]) <;> clear q') | (refine hN _ ?_ ?_ Wk.kk) | (with_reducible refine And.intro ?_ ?_) | (with_reducible omega) | (exact ok_ints) | (exact cells_ints) | (exact no_mem) | (with_reducible exact plain_ints) | (refine le_maxLen ?_; omega) | (refine List.forall_mem_cons.2 ⟨?_, ?_⟩) | (simp only [go_sem, zqc, zqb, List.mem_cons, List.not_mem_nil, forall_eq]; done)))
      all_goals (first | omega | (refine hN0 (x, y) _ hlt hsu.symm (by refine Wk.auto ?_ ?_ <;> simp [extraK, lk, killL, St.kill, wipeO, wipeS, AV.has, AV.hasL, AO.wipe, List.map_set, updSt, insL, dropS, ins, D.ints]); done))
    · rw [if_neg hz] at hsu
      have hb : (c != 0) = true := bne_iff_ne.2 hz
      simp (disch := first | omega | decide +kernel) only [D.ints, hld, hc, go_sem, zqa, zqb, zqc, zqd, zqe, ↓reduceIte, reduceCtorEq, zqf, zqg, zqh]
      (repeat' (first | ((first | (refine gsel_split (fun q' => ?_) (fun q' => ?_) <;> (have h' := q') <;> (try simp only [decide_eq_true_eq, decide_eq_false_iff_not, zba, zbb, bne_iff_ne, ne_eq, beq_iff_eq, bne_eq_false_iff_eq, beq_eq_false_iff_ne, zia, zib, zic, zid, zda, zbc, zbd, zbe, gt_iff_lt, ge_iff_le] at h') <;> try (exfalso; omega)) | (have q' := trivial; first | refine hE _ _ ret_ne ?_ | refine hE _ _ exit_ne ?_)) <;> (try simp (disch := first | omega | decide +kernel) only [q', D.ints, hld, hc, go_sem, zqa, zqb, zqc, zqd, zqe, ↓reduceIte, reduceCtorEq, zqf, zqg, zqh]) <;> clear q') | (refine hN _ ?_ ?_ Wk.kk) | (with_reducible refine And.intro ?_ ?_) | (with_reducible omega) | (exact ok_ints) | (exact cells_ints) | (exact no_mem) | (with_reducible exact plain_ints) | (refine le_maxLen ?_; omega) | (refine List.forall_mem_cons.2 ⟨?_, ?_⟩) | (simp only [go_sem, zqc, zqb, List.mem_cons, List.not_mem_nil, forall_eq]; done)))
      all_goals (first | omega | skip)
      refine Ok.loopN [103, 102, 101, 100, 99, 98, 97, 96, 95, 94, 93, 92, 91, 90, 89, 88, 87, 86, 85, 84, 83, 82, 81, 80, 79, 78, 77, 76, 75, 74, 73, 72, 71, 70, 69, 68, 67, 66, 65, 64, 63, 62, 61, 60, 59, 58, 57, 56, 55, 54, 53, 52, 51, 50, 49, 48, 47, 46, 45, 44, 43, 42, 41, 40, 39, 38, 37, 36, 35, 34, 33, 32, 31, 30, 29, 28, 27, 26, 25, 24, 23, 22, 21, 20, 19, 18, 17, 16, 15, 14, 13, 12, 7, 6, 5, 3] (fun j (_ : List Int) => [(12, .d (.int .i64 (j : Nat)))]) (fun _ (v : List Int) => [(16, .arr 3 1 (v.map (D.int .i64)))]) x.length
        (fun i v => v.length = x.length ∧ ∀ j, v.getD j 0 = if j < i then (x.getD j 0 + (p - c) * r.getD j 0) % p else x.getD j 0) x ⟨rfl, by simp⟩ (by refine Wk.auto ?_ ?_ <;> simp [extraK, lk, killL, St.kill, wipeO, wipeS, AV.has, AV.hasL, AO.wipe, List.map_set, updSt, insL, dropS, ins, D.ints]) ?_
      rintro R2 j v hN hE hj ⟨hvl, hv⟩
      by_cases hjt : j < x.length
      · have hvi := hv j
        rw [if_neg (by omega)] at hvi
        have hai := hx.2 j
        have hbi := hr.2 j
        have hkb : 0 ≤ (p - c) * r.getD j 0 ∧ (p - c) * r.getD j 0 ≤ 25 := ⟨Int.mul_nonneg (by omega) hbi.1, Int.le_trans (Int.mul_le_mul (show p - c ≤ 5 by omega) (show r.getD j 0 ≤ 5 by omega) hbi.1 (by decide)) (by decide)⟩
        have em : (x.getD j 0 + (p - c) * r.getD j 0).tmod p = (x.getD j 0 + (p - c) * r.getD j 0) % p := Int.tmod_eq_emod_of_nonneg (by omega)
        have hp0 : ¬ p = 0 := by omega
        have hset : ∀ k, (v.set j ((x.getD j 0 + (p - c) * r.getD j 0) % p)).getD k 0 = if k < j + 1 then (x.getD k 0 + (p - c) * r.getD k 0) % p else x.getD k 0 := fun k => by
          rw [getD_set]
          by_cases e : j = k
          · subst e; rw [if_pos ⟨rfl, by omega⟩, if_pos (by omega)]
          · rw [if_neg (fun h => e h.1), hv k]
            by_cases e2 : k < j
            · rw [if_pos e2, if_pos (by omega)]
            · rw [if_neg e2, if_neg (by omega)]
        clear hv
        simp (disch := first | omega | decide +kernel) only [D.ints, hb, hei, hvi, em, go_sem, zqa, zqb, zqc, zqd, zqe, ↓reduceIte, reduceCtorEq, zqf, zqg, zqh]
        (repeat' (first | ((first | (refine gsel_split (fun q' => ?_) (fun q' => ?_) <;> (have h' := q') <;> (try simp only [decide_eq_true_eq, decide_eq_false_iff_not, zba, zbb, bne_iff_ne, ne_eq, beq_iff_eq, bne_eq_false_iff_eq, beq_eq_false_iff_ne, zia, zib, zic, zid, zda, zbc, zbd, zbe, gt_iff_lt, ge_iff_le] at h') <;> try (exfalso; omega)) | (have q' := trivial; first | refine hE _ _ ret_ne ?_ | refine hE _ _ exit_ne ?_)) <;> (try simp (disch := first | omega | decide +kernel) only [q', D.ints, hb, hei, hvi, em, go_sem, zqa, zqb, zqc, zqd, zqe, ↓reduceIte, reduceCtorEq, zqf, zqg, zqh]) <;> clear q') | (refine hN _ ?_ ?_ Wk.kk) | (with_reducible refine And.intro ?_ ?_) | (with_reducible omega) | (exact ok_ints) | (exact cells_ints) | (exact no_mem) | (with_reducible exact plain_ints) | (refine le_maxLen ?_; omega) | (refine List.forall_mem_cons.2 ⟨?_, ?_⟩) | (simp only [go_sem, zqc, zqb, List.mem_cons, List.not_mem_nil, forall_eq]; done)))
        all_goals (first | omega | (refine hN (v.set j ((x.getD j 0 + (p - c) * r.getD j 0) % p)) _ hjt ⟨by simp [hvl], hset⟩ (by refine Wk.auto ?_ ?_ <;> simp [extraK, lk, killL, St.kill, wipeO, wipeS, AV.has, AV.hasL, AO.wipe, List.map_set, updSt, insL, dropS, ins, D.ints]); done))
      · obtain rfl : j = x.length := by omega
        have hv2 : v = addD p (p - c) x r := by
          refine ext_getDz 0 (by simp [addD]; omega) fun k hk => ?_
          rw [hv k, if_pos (by omega), addD, getD_zip _ _ _ (by omega) k (by omega)]
        rw [← hv2] at hsu
        clear hv hN hv2
        simp (disch := first | omega | decide +kernel) only [D.ints, hb, go_sem, zqa, zqb, zqc, zqd, zqe, ↓reduceIte, reduceCtorEq, zqf, zqg, zqh]
        (repeat' (first | ((first | (refine gsel_split (fun q' => ?_) (fun q' => ?_) <;> (have h' := q') <;> (try simp only [decide_eq_true_eq, decide_eq_false_iff_not, zba, zbb, bne_iff_ne, ne_eq, beq_iff_eq, bne_eq_false_iff_eq, beq_eq_false_iff_ne, zia, zib, zic, zid, zda, zbc, zbd, zbe, gt_iff_lt, ge_iff_le] at h') <;> try (exfalso; omega)) | (have q' := trivial; first | refine hE _ _ ret_ne ?_ | refine hE _ _ exit_ne ?_)) <;> (try simp (disch := first | omega | decide +kernel) only [q', D.ints, hb, go_sem, zqa, zqb, zqc, zqd, zqe, ↓reduceIte, reduceCtorEq, zqf, zqg, zqh]) <;> clear q') | (refine hN _ ?_ ?_ Wk.kk) | (with_reducible refine And.intro ?_ ?_) | (with_reducible omega) | (exact ok_ints) | (exact cells_ints) | (exact no_mem) | (with_reducible exact plain_ints) | (refine le_maxLen ?_; omega) | (refine List.forall_mem_cons.2 ⟨?_, ?_⟩) | (simp only [go_sem, zqc, zqb, List.mem_cons, List.not_mem_nil, forall_eq]; done)))
        all_goals (first | omega | skip)
        refine Ok.loopN [103, 102, 101, 100, 99, 98, 97, 96, 95, 94, 93, 92, 91, 90, 89, 88, 87, 86, 85, 84, 83, 82, 81, 80, 79, 78, 77, 76, 75, 74, 73, 72, 71, 70, 69, 68, 67, 66, 65, 64, 63, 62, 61, 60, 59, 58, 57, 56, 55, 54, 53, 52, 51, 50, 49, 48, 47, 46, 45, 44, 43, 42, 41, 40, 39, 38, 37, 36, 35, 34, 33, 32, 31, 30, 29, 28, 27, 26, 25, 24, 23, 22, 21, 20, 19, 18, 17, 16, 15, 14, 13, 12, 7, 6, 5, 3] (fun j _ => [(13, .d (.int .i64 (j : Nat)))]) (fun _ (w : List Int) => [(20, .arr 3 1 (w.map (D.int .i64)))]) m.length
          (fun j w => w = (List.range j).foldl (fun x k => stP p x k (c * m.getD k 0)) y) y rfl (by refine Wk.auto ?_ ?_ <;> simp [extraK, lk, killL, St.kill, wipeO, wipeS, AV.has, AV.hasL, AO.wipe, List.map_set, updSt, insL, dropS, ins, D.ints]) ?_
        rintro R2 j w hN hE hj hw
        have hwv : Vec p K.length w := by rw [hw]; exact fold_vec (fun v k h => h.st (by omega) _ _) _ hy
        by_cases hjt : j < m.length
        · have hs2 : (List.range (j + 1)).foldl (fun x k => stP p x k (c * m.getD k 0)) y = w.set j ((w.getD j 0 + c * m.getD j 0) % p) := by
            rw [List.range_succ, List.foldl_append, ← hw]; rfl
          have hmj := hmd2.2 j
          have hwj := hwv.2 j
          have hwl := hwv.1
          clear hw
          have hcd : 0 ≤ c * m.getD j 0 ∧ c * m.getD j 0 ≤ 25 := ⟨Int.mul_nonneg hxl.1 hmj.1, Int.le_trans (Int.mul_le_mul (show c ≤ 5 by omega) (show m.getD j 0 ≤ 5 by omega) hmj.1 (by decide)) (by decide)⟩
          have em : (w.getD j 0 + c * m.getD j 0).tmod p = (w.getD j 0 + c * m.getD j 0) % p := Int.tmod_eq_emod_of_nonneg (by omega)
          have hp0 : ¬ p = 0 := by omega
          simp (disch := first | omega | decide +kernel) only [D.ints, hb, hem, em, go_sem, zqa, zqb, zqc, zqd, zqe, ↓reduceIte, reduceCtorEq, zqf, zqg, zqh]
          (repeat' (first | ((first | (refine gsel_split (fun q' => ?_) (fun q' => ?_) <;> (have h' := q') <;> (try simp only [decide_eq_true_eq, decide_eq_false_iff_not, zba, zbb, bne_iff_ne, ne_eq, beq_iff_eq, bne_eq_false_iff_eq, beq_eq_false_iff_ne, zia, zib, zic, zid, zda, zbc, zbd, zbe, gt_iff_lt, ge_iff_le] at h') <;> try (exfalso; omega)) | (have q' := trivial; first | refine hE _ _ ret_ne ?_ | refine hE _ _ exit_ne ?_)) <;> (try simp (disch := first | omega | decide +kernel) only [q', D.ints, hb, hem, em, go_sem, zqa, zqb, zqc, zqd, zqe, ↓reduceIte, reduceCtorEq, zqf, zqg, zqh]) <;> clear q') | (refine hN _ ?_ ?_ Wk.kk) | (with_reducible refine And.intro ?_ ?_) | (with_reducible omega) | (exact ok_ints) | (exact cells_ints) | (exact no_mem) | (with_reducible exact plain_ints) | (refine le_maxLen ?_; omega) | (refine List.forall_mem_cons.2 ⟨?_, ?_⟩) | (simp only [go_sem, zqc, zqb, List.mem_cons, List.not_mem_nil, forall_eq]; done)))
          all_goals (first | omega | (refine hN (w.set j ((w.getD j 0 + c * m.getD j 0) % p)) _ hjt hs2.symm (by refine Wk.auto ?_ ?_ <;> simp [extraK, lk, killL, St.kill, wipeO, wipeS, AV.has, AV.hasL, AO.wipe, List.map_set, updSt, insL, dropS, ins, D.ints]); done))
        · obtain rfl : j = m.length := by omega
          have hw2 : w = addM p c y m := hw
          rw [← hw2] at hsu
          simp (disch := first | omega | decide +kernel) only [D.ints, hb, hem, go_sem, zqa, zqb, zqc, zqd, zqe, ↓reduceIte, reduceCtorEq, zqf, zqg, zqh]
          (repeat' (first | ((first | (refine gsel_split (fun q' => ?_) (fun q' => ?_) <;> (have h' := q') <;> (try simp only [decide_eq_true_eq, decide_eq_false_iff_not, zba, zbb, bne_iff_ne, ne_eq, beq_iff_eq, bne_eq_false_iff_eq, beq_eq_false_iff_ne, zia, zib, zic, zid, zda, zbc, zbd, zbe, gt_iff_lt, ge_iff_le] at h') <;> try (exfalso; omega)) | (have q' := trivial; first | refine hE _ _ ret_ne ?_ | refine hE _ _ exit_ne ?_)) <;> (try simp (disch := first | omega | decide +kernel) only [q', D.ints, hb, hem, go_sem, zqa, zqb, zqc, zqd, zqe, ↓reduceIte, reduceCtorEq, zqf, zqg, zqh]) <;> clear q') | (refine hN _ ?_ ?_ Wk.kk) | (with_reducible refine And.intro ?_ ?_) | (with_reducible omega) | (exact ok_ints) | (exact cells_ints) | (exact no_mem) | (with_reducible exact plain_ints) | (refine le_maxLen ?_; omega) | (refine List.forall_mem_cons.2 ⟨?_, ?_⟩) | (simp only [go_sem, zqc, zqb, List.mem_cons, List.not_mem_nil, forall_eq]; done)))
          all_goals (first | omega | (refine hN0 (v, w) _ hlt hsu.symm (by refine Wk.auto ?_ ?_ <;> simp [extraK, lk, killL, St.kill, wipeO, wipeS, AV.has, AV.hasL, AO.wipe, List.map_set, updSt, insL, dropS, ins, D.ints]); done))
  · obtain rfl : i = R.length := by omega
    rw [← hs] at hE0
    have hE := hE0
    simp (disch := first | omega | decide +kernel) only [D.ints, go_sem, zqa, zqb, zqc, zqd, zqe, ↓reduceIte, reduceCtorEq, zqf, zqg, zqh]
    (repeat' (first | ((first | (refine gsel_split (fun q' => ?_) (fun q' => ?_) <;> (have h' := q') <;> (try simp only [decide_eq_true_eq, decide_eq_false_iff_not, zba, zbb, bne_iff_ne, ne_eq, beq_iff_eq, bne_eq_false_iff_eq, beq_eq_false_iff_ne, zia, zib, zic, zid, zda, zbc, zbd, zbe, gt_iff_lt, ge_iff_le] at h') <;> try (exfalso; omega)) | (have q' := trivial; first | refine hE _ _ ret_ne ?_ | refine hE _ _ exit_ne ?_)) <;> (try simp (disch := first | omega | decide +kernel) only [q', D.ints, go_sem, zqa, zqb, zqc, zqd, zqe, ↓reduceIte, reduceCtorEq, zqf, zqg, zqh]) <;> clear q') | (refine hN _ ?_ ?_ Wk.kk) | (with_reducible refine And.intro ?_ ?_) | (with_reducible omega) | (exact ok_ints) | (exact cells_ints) | (exact no_mem) | (with_reducible exact plain_ints) | (refine le_maxLen ?_; omega) | (refine List.forall_mem_cons.2 ⟨?_, ?_⟩) | (simp only [go_sem, zqc, zqb, List.mem_cons, List.not_mem_nil, forall_eq]; done)))
    all_goals (first | omega | exact ret_sl2 rfl rfl rfl rfl (by decide) plain_ints plain_ints)
end
end Abs.Y
