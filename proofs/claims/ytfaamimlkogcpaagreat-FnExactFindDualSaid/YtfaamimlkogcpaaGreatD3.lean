/- What functions of this program compute, as contracts over plain data, with what the proofs need of them. No condition. -/
import Derived.Test.YtfaamimlkogcpaaGreatD2
import Derived.Test.YtfaamimlkogcpaaGreatV2
set_option linter.all false
namespace Abs
open Go Go.Proofs
theorem retM_of {P : Program} {rs : List ResultVar} {u : Nat → Value} {keep : List Nat} {sh : Bool} {res : AV} {oo : List (Nat × AO)} {st : St} {c : Prop} {avs : List AV} (κ : Nat → Nat) (h : resV P st rs = some (c, avs)) (hc : c) (hr : oneOf avs = res.ren κ)
    (ho : ∀ p ∈ oo, lk (κ p.1) st.o = some (p.2.ren κ)) (hi : ∀ p ∈ oo, ∀ q ∈ oo, κ p.1 = κ q.1 → p.1 = q.1) (hk : keptM st u κ keep) (hs : sh = true ∨ (res.plain ∧ plainO oo)) : retM P rs u keep sh res oo .ret st := by
  simp only [retM, h]
  exact ⟨hc, ⟨κ, hr, ho, hi, hk⟩, hs⟩
end Abs
namespace Abs.Y
open Go Go.Proofs Abs
open Nat renaming reduceEqDiff → zqa, reduceLT → zqb, reduceAdd → zqc, reduceMul → zqd, reduceSub → zqe, reduceLeDiff → zqf, reduceSubDiff → zqg, reduceBEq → zqh
open Bool renaming not_eq_true' → zba, not_eq_false' → zbb, and_eq_true → zbc, or_eq_true → zbd, or_eq_false_iff → zbe
open Int renaming ofNat_lt → zia, ofNat_le → zib, not_lt → zic, not_le → zid
open Decidable renaming not_not → zda
set_option maxRecDepth 100000

@[reducible] def echO (p : Int) (u : Nat) (R M : List (List Int)) (many : Nat) : List (Nat × AO) :=
  [(2, .dp (some (56, 1)) (M.map D.ints) none), (1, .arr 56 1 (R.map D.ints)), (0, .box 68 [.d (.int .i64 p), .d (.int .i64 u), .sl 1, .sl 2, .d (.int .i64 many)])]
theorem map_set_self {α : Type} (f : α → D) (z : α) (l : List α) {i : Nat} (hi : i < l.length) : (l.map f).set i (f (l.getD i z)) = l.map f := by
  refine List.ext_getElem (by simp) fun j h1 h2 => ?_
  rw [List.getElem_set]
  split
  · rename_i e; subst e
    simp [List.getD_eq_getElem?_getD, hi]
  · rfl
section
variable {p : Int} {u : Nat} (hp : 1 < p ∧ p ≤ 5) (hu : u ≤ 6)
include hp hu
set_option maxHeartbeats 8000000 in
theorem reduceM_ok {R M : List (List Int)} {many : Nat} {a : List Int} (hP : EchP p u R M many) (ha : Vec p (2 ^ u) a) :
    CtrM Tryz.prog 26 [.p 0 0, .d (.ints a)] (echO p u R M many) [0, 1, 2] true (.tup [.d (.ints (redQ p R M a many R.length).1), .sl 3])
      ((3, .arr 3 1 ((redQ p R M a many R.length).2.map (.int .i64))) :: echO p u R M many) := by
  have h2 := pow_le6 hu
  have hb := hP.bd
  have hmb := hP.many
  have hml := hP.len
  have er : List.replicate many (D.int .i64 0) = (List.replicate many (0 : Int)).map (D.int .i64) := by simp
  refine CtrM.of (n := 82) (rs := [.tmp 4, .tmp 5]) Tryz.func26 rfl rfl Tryz.ntmps26 rfl rfl (by kernel_rfl) Tryz.checked.mixed ?_; intro u
  simp (disch := first | omega | decide +kernel) only [D.ints, er, echO, go_sem, zqa, zqb, zqc, zqd, zqe, ↓reduceIte, reduceCtorEq, zqf, zqg, zqh]
  (repeat' (first | ((first | (refine gsel_split (fun q' => ?_) (fun q' => ?_) <;> (have h' := q') <;> (try simp only [decide_eq_true_eq, decide_eq_false_iff_not, zba, zbb, bne_iff_ne, ne_eq, beq_iff_eq, bne_eq_false_iff_eq, beq_eq_false_iff_ne, zia, zib, zic, zid, zda, zbc, zbd, zbe, gt_iff_lt, ge_iff_le] at h') <;> try (exfalso; omega)) | (have q' := trivial; first | refine hE _ _ ret_ne ?_ | refine hE _ _ exit_ne ?_)) <;> (try simp (disch := first | omega | decide +kernel) only [q', D.ints, er, go_sem, zqa, zqb, zqc, zqd, zqe, ↓reduceIte, reduceCtorEq, zqf, zqg, zqh]) <;> clear q') | (refine hN _ ?_ ?_ Wk.kk) | (with_reducible refine And.intro ?_ ?_) | (with_reducible omega) | (exact ok_ints) | (exact cells_ints) | (exact no_mem) | (with_reducible exact plain_ints) | (refine le_maxLen ?_; omega) | (refine List.forall_mem_cons.2 ⟨?_, ?_⟩) | (simp only [go_sem, zqc, zqb, List.mem_cons, List.not_mem_nil, forall_eq]; done)))
  all_goals (first | omega | skip)
  refine Ok.loopN [79, 78, 77, 76, 75, 74, 73, 72, 71, 70, 69, 68, 67, 66, 65, 64, 63, 62, 61, 60, 59, 58, 57, 56, 55, 54, 53, 52, 51, 50, 49, 48, 47, 46, 45, 44, 43, 42, 41, 40, 39, 38, 37, 36, 35, 34, 33, 32, 31, 30, 29, 28, 27, 26, 25, 24, 23, 22, 11, 10, 9, 8, 7, 1] (fun i (s : List Int × List Int) => [(22, .d (.int .i64 (i : Nat))), (1, .d (.ints s.1))]) (fun _ (s : List Int × List Int) => [(16, .arr 3 1 (s.2.map (D.int .i64)))]) R.length
    (fun i s => s = redQ p R M a many i) (a, List.replicate many 0) rfl (by refine Wk.auto ?_ ?_ <;> simp [extraK, lk, killL, St.kill, wipeO, wipeS, AV.has, AV.hasL, AO.wipe, List.map_set, updSt, insL, dropS, ins, D.ints]) ?_
  rintro R0 i ⟨x, y⟩ hN0 hE0 hi hs
  have hv := redQ_vec (p := p) (by omega) (M := M) (many := many) hP.vec ha i (by omega)
  rw [← hs] at hv
  obtain ⟨hx, hy⟩ := hv
  simp only at hx hy
  by_cases hlt : i < R.length
  · have hsu := redQ_succ p R M a many i
    rw [← hs] at hsu
    unfold redP at hsu
    simp only at hsu
    have hrm : R.getD i [] ∈ R := getD_mem (z := ([] : List Int)) hlt
    have hmm : M.getD i [] ∈ M := getD_mem (z := ([] : List Int)) (by omega)
    have hr := hP.vec _ hrm
    obtain ⟨hmd1, hmd2⟩ := hP.mad _ hmm
    have hset : (M.map D.ints).set i (.slice ((M.getD i []).map (.int .i64))) = M.map D.ints := map_set_self D.ints [] M (i := i) (by omega)
    have c1 := leading_ok (v := R.getD i []) (by have := hr.1; omega)
    obtain ⟨hl1, hl2, _⟩ := (ldI_or (R.getD i [])).resolve_left fun h => hP.nz _ hrm (by rw [h.1]; decide)
    rw [hl1] at c1
    clear hs
    generalize hrr : R.getD i [] = r at *
    generalize hmr : M.getD i [] = m at *
    generalize ldG r = l at *
    have hxl := hx.2 l
    have hxn := hx.1
    have hrn := hr.1
    have hyn := hy.1
    generalize hc : x.getD l 0 = c at *
    by_cases hz : c = 0
    · rw [if_pos hz] at hsu
      have hb : (c != 0) = false := by rw [hz]; rfl
      simp (disch := first | omega | decide +kernel) only [D.ints, hrr, hmr, hc, hb, go_sem, zqa, zqb, zqc, zqd, zqe, ↓reduceIte, reduceCtorEq, zqf, zqg, zqh]
      (repeat' (first | ((first | (refine gsel_split (fun q' => ?_) (fun q' => ?_) <;> (have h' := q') <;> (try simp only [decide_eq_true_eq, decide_eq_false_iff_not, zba, zbb, bne_iff_ne, ne_eq, beq_iff_eq, bne_eq_false_iff_eq, beq_eq_false_iff_ne, zia, zib, zic, zid, zda, zbc, zbd, zbe, gt_iff_lt, ge_iff_le] at h') <;> try (exfalso; omega)) | (have q' := trivial; first | refine callX_new (c1) rfl (by decide) ?_ | refine callY_new (c1) rfl ?_ | refine hE _ _ ret_ne ?_ | refine hE _ _ exit_ne ?_)) <;> (try simp (disch := first | omega | decide +kernel) only [q', D.ints, hrr, hmr, hc, hb, go_sem, zqa, zqb, zqc, zqd, zqe, ↓reduceIte, reduceCtorEq, zqf, zqg, zqh]) <;> clear q') | (refine hN _ ?_ ?_ Wk.kk) | (with_reducible refine And.intro ?_ ?_) | (with_reducible omega) | (exact ok_ints) | (exact cells_ints) | (exact no_mem) | (with_reducible exact plain_ints) | (refine le_maxLen ?_; omega) | (refine List.forall_mem_cons.2 ⟨?_, ?_⟩) | (simp only [go_sem, zqc, zqb, List.mem_cons, List.not_mem_nil, forall_eq]; done)))
      all_goals (first | omega | (refine hN0 (x, y) _ hlt hsu.symm (by refine Wk.auto ?_ ?_ <;> simp [extraK, lk, killL, St.kill, wipeO, wipeS, AV.has, AV.hasL, AO.wipe, List.map_set, updSt, insL, dropS, ins, D.ints]); done))
    · rw [if_neg hz] at hsu
      have hb : (c != 0) = true := bne_iff_ne.2 hz
      have c2 := Ctr.data1 (plus_ok hp hu (k := p - c) hx hr (by omega))
      generalize addD p (p - c) x r = x2 at *
      simp (disch := first | omega | decide +kernel) only [D.ints, hrr, hmr, hc, hb, go_sem, zqa, zqb, zqc, zqd, zqe, ↓reduceIte, reduceCtorEq, zqf, zqg, zqh]
      (repeat' (first | ((first | (refine gsel_split (fun q' => ?_) (fun q' => ?_) <;> (have h' := q') <;> (try simp only [decide_eq_true_eq, decide_eq_false_iff_not, zba, zbb, bne_iff_ne, ne_eq, beq_iff_eq, bne_eq_false_iff_eq, beq_eq_false_iff_ne, zia, zib, zic, zid, zda, zbc, zbd, zbe, gt_iff_lt, ge_iff_le] at h') <;> try (exfalso; omega)) | (have q' := trivial; first | refine callX_new (c1) rfl (by decide) ?_ | refine callY_new (c1) rfl ?_ | refine callX_shared (c2) rfl (by decide) ?_ | refine callY_shared (c2) rfl ?_ | refine hE _ _ ret_ne ?_ | refine hE _ _ exit_ne ?_)) <;> (try simp (disch := first | omega | decide +kernel) only [q', D.ints, hrr, hmr, hc, hb, go_sem, zqa, zqb, zqc, zqd, zqe, ↓reduceIte, reduceCtorEq, zqf, zqg, zqh]) <;> clear q') | (refine hN _ ?_ ?_ Wk.kk) | (with_reducible refine And.intro ?_ ?_) | (with_reducible omega) | (exact ok_ints) | (exact cells_ints) | (exact no_mem) | (with_reducible exact plain_ints) | (refine le_maxLen ?_; omega) | (refine List.forall_mem_cons.2 ⟨?_, ?_⟩) | (simp only [go_sem, zqc, zqb, List.mem_cons, List.not_mem_nil, forall_eq]; done)))
      all_goals (first | omega | skip)
      refine Ok.loopN [78, 77, 76, 75, 74, 73, 72, 71, 70, 69, 68, 67, 66, 65, 64, 63, 62, 61, 60, 59, 58, 57, 56, 11, 10] (fun j _ => [(56, .d (.int .i64 (j : Nat)))]) (fun _ (w : List Int) => [(16, .arr 3 1 (w.map (D.int .i64)))]) m.length
        (fun j w => w = (List.range j).foldl (fun x k => stP p x k (c * m.getD k 0)) y) y rfl (by refine Wk.auto ?_ ?_ <;> simp [extraK, lk, killL, St.kill, wipeO, wipeS, AV.has, AV.hasL, AO.wipe, List.map_set, updSt, insL, dropS, ins, D.ints]) ?_
      rintro R2 j w hN hE hj hw
      have hwv : Vec p many w := by rw [hw]; exact fold_vec (fun v k h => h.st (by omega) _ _) _ hy
      by_cases hjt : j < m.length
      · have hs2 : (List.range (j + 1)).foldl (fun x k => stP p x k (c * m.getD k 0)) y = w.set j ((w.getD j 0 + c * m.getD j 0) % p) := by
          rw [List.range_succ, List.foldl_append, ← hw]; rfl
        have hmj := hmd2.2 j
        have hwj := hwv.2 j
        have hwl := hwv.1
        clear hw
        have hcd : 0 ≤ c * m.getD j 0 ∧ c * m.getD j 0 ≤ 25 := ⟨Int.mul_nonneg hxl.1 hmj.1, Int.le_trans (Int.mul_le_mul (show c ≤ 5 by omega) (show m.getD j 0 ≤ 5 by omega) hmj.1 (by decide)) (by decide)⟩
        have em : (w.getD j 0 + c * m.getD j 0).tmod p = (w.getD j 0 + c * m.getD j 0) % p := Int.tmod_eq_emod_of_nonneg (by omega)
        have hp0 : ¬ p = 0 := by omega
        simp (disch := first | omega | decide +kernel) only [D.ints, hmr, em, Option.isSome_none, Bool.false_eq_true, if_false, go_sem, zqa, zqb, zqc, zqd, zqe, ↓reduceIte, reduceCtorEq, zqf, zqg, zqh]
        (repeat' (first | ((first | (refine gsel_split (fun q' => ?_) (fun q' => ?_) <;> (have h' := q') <;> (try simp only [decide_eq_true_eq, decide_eq_false_iff_not, zba, zbb, bne_iff_ne, ne_eq, beq_iff_eq, bne_eq_false_iff_eq, beq_eq_false_iff_ne, zia, zib, zic, zid, zda, zbc, zbd, zbe, gt_iff_lt, ge_iff_le] at h') <;> try (exfalso; omega)) | (have q' := trivial; first | refine hE _ _ ret_ne ?_ | refine hE _ _ exit_ne ?_)) <;> (try simp (disch := first | omega | decide +kernel) only [q', D.ints, hmr, em, Option.isSome_none, Bool.false_eq_true, if_false, go_sem, zqa, zqb, zqc, zqd, zqe, ↓reduceIte, reduceCtorEq, zqf, zqg, zqh]) <;> clear q') | (refine hN _ ?_ ?_ Wk.kk) | (with_reducible refine And.intro ?_ ?_) | (with_reducible omega) | (exact ok_ints) | (exact cells_ints) | (exact no_mem) | (with_reducible exact plain_ints) | (refine le_maxLen ?_; omega) | (refine List.forall_mem_cons.2 ⟨?_, ?_⟩) | (simp only [go_sem, zqc, zqb, List.mem_cons, List.not_mem_nil, forall_eq]; done)))
        all_goals (first | omega | (refine hN (w.set j ((w.getD j 0 + c * m.getD j 0) % p)) _ hjt hs2.symm (by refine Wk.auto ?_ ?_ <;> simp [extraK, lk, killL, St.kill, wipeO, wipeS, AV.has, AV.hasL, AO.wipe, List.map_set, updSt, insL, dropS, ins, D.ints]); done))
      · obtain rfl : j = m.length := by omega
        have hw2 : w = addM p c y m := hw
        rw [← hw2] at hsu
        simp (disch := first | omega | decide +kernel) only [D.ints, go_sem, zqa, zqb, zqc, zqd, zqe, ↓reduceIte, reduceCtorEq, zqf, zqg, zqh]
        (repeat' (first | ((first | (refine gsel_split (fun q' => ?_) (fun q' => ?_) <;> (have h' := q') <;> (try simp only [decide_eq_true_eq, decide_eq_false_iff_not, zba, zbb, bne_iff_ne, ne_eq, beq_iff_eq, bne_eq_false_iff_eq, beq_eq_false_iff_ne, zia, zib, zic, zid, zda, zbc, zbd, zbe, gt_iff_lt, ge_iff_le] at h') <;> try (exfalso; omega)) | (have q' := trivial; first | refine hE _ _ ret_ne ?_ | refine hE _ _ exit_ne ?_)) <;> (try simp (disch := first | omega | decide +kernel) only [q', D.ints, go_sem, zqa, zqb, zqc, zqd, zqe, ↓reduceIte, reduceCtorEq, zqf, zqg, zqh]) <;> clear q') | (refine hN _ ?_ ?_ Wk.kk) | (with_reducible refine And.intro ?_ ?_) | (with_reducible omega) | (exact ok_ints) | (exact cells_ints) | (exact no_mem) | (with_reducible exact plain_ints) | (refine le_maxLen ?_; omega) | (refine List.forall_mem_cons.2 ⟨?_, ?_⟩) | (simp only [go_sem, zqc, zqb, List.mem_cons, List.not_mem_nil, forall_eq]; done)))
        all_goals (first | omega | (refine hN0 (x2, w) _ hlt hsu.symm ((Wk.fold 2 (by simp (disch := first | omega | decide +kernel) only [go_sem, zqa, zqb, zqc, zqd, zqe, ↓reduceIte, reduceCtorEq, zqf, zqg, zqh]; rfl)).trans (by refine Wk.auto ?_ ?_ <;> simp [extraK, lk, killL, St.kill, wipeO, wipeS, AV.has, AV.hasL, AO.wipe, List.map_set, updSt, insL, dropS, ins, D.ints, hset])); done))
  · obtain rfl : i = R.length := by omega
    rw [← hs] at hE0
    have hE := hE0
    simp (disch := first | omega | decide +kernel) only [D.ints, go_sem, zqa, zqb, zqc, zqd, zqe, ↓reduceIte, reduceCtorEq, zqf, zqg, zqh]
    (repeat' (first | ((first | (refine gsel_split (fun q' => ?_) (fun q' => ?_) <;> (have h' := q') <;> (try simp only [decide_eq_true_eq, decide_eq_false_iff_not, zba, zbb, bne_iff_ne, ne_eq, beq_iff_eq, bne_eq_false_iff_eq, beq_eq_false_iff_ne, zia, zib, zic, zid, zda, zbc, zbd, zbe, gt_iff_lt, ge_iff_le] at h') <;> try (exfalso; omega)) | (have q' := trivial; first | refine hE _ _ ret_ne ?_ | refine hE _ _ exit_ne ?_)) <;> (try simp (disch := first | omega | decide +kernel) only [q', D.ints, go_sem, zqa, zqb, zqc, zqd, zqe, ↓reduceIte, reduceCtorEq, zqf, zqg, zqh]) <;> clear q') | (refine hN _ ?_ ?_ Wk.kk) | (with_reducible refine And.intro ?_ ?_) | (with_reducible omega) | (exact ok_ints) | (exact cells_ints) | (exact no_mem) | (with_reducible exact plain_ints) | (refine le_maxLen ?_; omega) | (refine List.forall_mem_cons.2 ⟨?_, ?_⟩) | (simp only [go_sem, zqc, zqb, List.mem_cons, List.not_mem_nil, forall_eq]; done)))
    all_goals (refine retM_of (nth [0, 1, 2, 16]) rfl ?_ rfl ?_ ?_ ?_ (.inl rfl))
    all_goals (first | trivial | (simp [lk, nth, AO.ren, AV.renL, AV.ren]; done) | (simp [keptM, nth, lk]; done))
end
end Abs.Y
