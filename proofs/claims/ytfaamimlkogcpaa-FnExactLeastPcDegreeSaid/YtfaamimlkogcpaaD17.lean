/- What functions of this program compute, as contracts over plain data, with what the proofs need of them. No condition. -/
import Derived.Test.YtfaamimlkogcpaaAbsShelf
import Derived.Test.YtfaamimlkogcpaaD15
set_option linter.all false
namespace Abs.Y
open Go Go.Proofs Abs
open Nat renaming reduceEqDiff → zqa, reduceLT → zqb, reduceAdd → zqc, reduceMul → zqd, reduceSub → zqe, reduceLeDiff → zqf, reduceSubDiff → zqg, reduceBEq → zqh
open Bool renaming not_eq_true' → zba, not_eq_false' → zbb, and_eq_true → zbc, or_eq_true → zbd, or_eq_false_iff → zbe
open Int renaming ofNat_lt → zia, ofNat_le → zib, not_lt → zic, not_le → zid
open Decidable renaming not_not → zda
set_option maxRecDepth 100000

section
variable {p : Int} {u : Nat} (hp : p = 2 ∨ p = 3 ∨ p = 5) (hu : u ≤ 6)
def keepE : Keep p u EchS where
  rows := EchS.R
  inv := EchI p u
  put := fun e a => (addE p u e a, !decide (ldI (restE p e a) < 0))
  ech := fun _ h => h.ech
  ok := fun _ _ h ha => ⟨(addE_ok hp hu h ha).1, (addE_ok hp hu h ha).2.1⟩
  no := fun e a _ _ hb => by
    have : ldI (restE p e a) < 0 := by simpa using hb
    show addE p u e a = e
    unfold addE; rw [if_pos this]
  yes := fun e a _ _ hb => by
    have : ¬ ldI (restE p e a) < 0 := by simpa using hb
    show (addE p u e a).R.length = e.R.length + 1
    unfold addE; rw [if_neg this]; simp
theorem ok_dn {R : List (List Int)} : ∀ y ∈ R.map D.ints, D.ok 1 y := fun y hy => by
  obtain ⟨r, _, rfl⟩ := List.mem_map.1 hy
  show D.ok 1 (.slice _)
  exact ⟨rfl, by simp [D.cells, D.atom]⟩
theorem cloneRows_ok (R : List (List Int)) (hl : R.length ≤ 4294967296) :
    CtrM Try.prog 161 [.sl 0] [(0, .arr 78 1 (R.map D.ints))] [0] true (.sl 1) [(1, .arr 78 1 (R.map D.ints)), (0, .arr 78 1 (R.map D.ints))] := by
  refine CtrM.of (n := 8) (rs := [.tmp 2]) Try.func161 rfl rfl Try.ntmps161 rfl rfl (by kernel_rfl) Try.checked.mixed ?_; intro u
  simp (disch := first | omega | decide +kernel) only [D.ints, go_sem, zqa, zqb, zqc, zqd, zqe, ↓reduceIte, reduceCtorEq, zqf, zqg, zqh]
  intro b hb
  cases b with
  | true =>
    obtain rfl : R = [] := by cases R with | nil => rfl | cons x r => simp at hb
    simp (disch := first | omega | decide +kernel) only [D.ints, go_sem, zqa, zqb, zqc, zqd, zqe, ↓reduceIte, reduceCtorEq, zqf, zqg, zqh]
    (repeat' (first | ((first | (refine gsel_split (fun q' => ?_) (fun q' => ?_) <;> (have h' := q') <;> (try simp only [decide_eq_true_eq, decide_eq_false_iff_not, zba, zbb, bne_iff_ne, ne_eq, beq_iff_eq, bne_eq_false_iff_eq, beq_eq_false_iff_ne, zia, zib, zic, zid, zda, zbc, zbd, zbe, gt_iff_lt, ge_iff_le] at h') <;> try (exfalso; omega)) | (have q' := trivial; first | refine hE _ _ ret_ne ?_ | refine hE _ _ exit_ne ?_)) <;> (try simp (disch := first | omega | decide +kernel) only [q', D.ints, go_sem, zqa, zqb, zqc, zqd, zqe, ↓reduceIte, reduceCtorEq, zqf, zqg, zqh]) <;> clear q') | (refine hN _ ?_ ?_ Wk.kk) | (with_reducible refine And.intro ?_ ?_) | (with_reducible omega) | (exact ok_ints) | (exact cells_ints) | (exact no_mem) | (with_reducible exact plain_ints) | (refine le_maxLen ?_; omega) | (refine List.forall_mem_cons.2 ⟨?_, ?_⟩) | (simp only [go_sem, zqc, zqb, List.mem_cons, List.not_mem_nil, forall_eq]; done)))
    refine retM_of (nth [0, 2]) rfl ?_ rfl ?_ ?_ ?_ (.inl rfl)
    all_goals (first | trivial | (simp [lk, nth, AO.ren, AV.renL, AV.ren]; done) | (simp [keptM, nth, lk]; done))
  | false =>
    simp (disch := first | omega | decide +kernel) only [D.ints, go_sem, zqa, zqb, zqc, zqd, zqe, ↓reduceIte, reduceCtorEq, zqf, zqg, zqh]
    (repeat' (first | ((first | (refine gsel_split (fun q' => ?_) (fun q' => ?_) <;> (have h' := q') <;> (try simp only [decide_eq_true_eq, decide_eq_false_iff_not, zba, zbb, bne_iff_ne, ne_eq, beq_iff_eq, bne_eq_false_iff_eq, beq_eq_false_iff_ne, zia, zib, zic, zid, zda, zbc, zbd, zbe, gt_iff_lt, ge_iff_le] at h') <;> try (exfalso; omega)) | (have q' := trivial; first | refine hE _ _ ret_ne ?_ | refine hE _ _ exit_ne ?_)) <;> (try simp (disch := first | omega | decide +kernel) only [q', D.ints, go_sem, zqa, zqb, zqc, zqd, zqe, ↓reduceIte, reduceCtorEq, zqf, zqg, zqh]) <;> clear q') | (refine hN _ ?_ ?_ Wk.kk) | (with_reducible refine And.intro ?_ ?_) | (with_reducible omega) | (exact ok_ints) | (exact cells_ints) | (exact no_mem) | (with_reducible exact plain_ints) | (refine le_maxLen ?_; omega) | (refine List.forall_mem_cons.2 ⟨?_, ?_⟩) | (simp only [go_sem, zqc, zqb, List.mem_cons, List.not_mem_nil, forall_eq]; done)))
    all_goals (first | exact ok_dn | skip)
    refine retM_of (nth [0, 5]) rfl ?_ rfl ?_ ?_ ?_ (.inl rfl)
    all_goals (first | trivial | (simp [lk, nth, AO.ren, AV.renL, AV.ren]; done) | (simp [keptM, nth, lk]; done))
@[reducible] def spanO (p : Int) (u : Nat) (e : EchS) (b : Bool) : List (Nat × AO) := (4, .box 4 [.d (.bool b)]) :: (3, .box 114 [.p 0 0]) :: echO p u e.R e.M e.many
include hp hu
theorem span1_ok {e : EchS} {a : List Int} (h : EchI p u e) (ha : Vec p (2 ^ u) a) (b : Bool) :
    CtrM Try.prog 162 [.d (.ints a), .p 3 0, .p 4 0] (spanO p u e b) [0, 3, 4] true (.d (.bool true))
      (spanO p u (addE p u e a) (b || !decide (ldI (restE p e a) < 0))) := by
  have c1 := echAdd_ok hp hu h ha
  generalize addE p u e a = e2 at *
  generalize (!decide (ldI (restE p e a) < 0)) = f at *
  refine CtrM.of (n := 11) (rs := [.tmp 4]) Try.func162 rfl rfl Try.ntmps162 rfl rfl (by kernel_rfl) Try.checked.mixed ?_; intro u
  simp (disch := first | omega | decide +kernel) only [D.ints, spanO, echO, List.cons_append, List.nil_append, go_sem, zqa, zqb, zqc, zqd, zqe, ↓reduceIte, reduceCtorEq, zqf, zqg, zqh]
  cases f
  all_goals (
    (repeat' (first | ((first | (refine gsel_split (fun q' => ?_) (fun q' => ?_) <;> (have h' := q') <;> (try simp only [decide_eq_true_eq, decide_eq_false_iff_not, zba, zbb, bne_iff_ne, ne_eq, beq_iff_eq, bne_eq_false_iff_eq, beq_eq_false_iff_ne, zia, zib, zic, zid, zda, zbc, zbd, zbe, gt_iff_lt, ge_iff_le] at h') <;> try (exfalso; omega)) | (have q' := trivial; first | refine callX_mut [0, 1, 2] [0, 1, 2] [1, 2] (c1) ⟨.inl rfl, .inl rfl, trivial⟩ ⟨rfl, rfl, rfl, trivial⟩ rfl (by simp [dstB]) ?_ | refine hE _ _ ret_ne ?_ | refine hE _ _ exit_ne ?_)) <;> (try simp (disch := first | omega | decide +kernel) only [q', D.ints, go_sem, zqa, zqb, zqc, zqd, zqe, ↓reduceIte, reduceCtorEq, zqf, zqg, zqh]) <;> clear q') | (refine hN _ ?_ ?_ Wk.kk) | (with_reducible refine And.intro ?_ ?_) | (with_reducible omega) | (exact ok_ints) | (exact cells_ints) | (exact no_mem) | (with_reducible exact plain_ints) | (refine le_maxLen ?_; omega) | (refine List.forall_mem_cons.2 ⟨?_, ?_⟩) | (simp only [go_sem, zqc, zqb, List.mem_cons, List.not_mem_nil, forall_eq]; done)))
    all_goals (first | omega | skip)
    all_goals (refine retM_of (nth [0, 1, 2, 3, 4]) rfl ?_ rfl ?_ ?_ ?_ (.inl rfl))
    all_goals (first | trivial | (simp [lk, nth, AO.ren, AV.renL, AV.ren]; done) | (simp [keptM, nth, lk]; done)))
set_option maxHeartbeats 16000000 in
theorem liftedAdd_ok {cs q : List (List Int)} {R : List (List Int)} (hR : AllV p (2 ^ u) R) (hRl : R.length ≤ 64) {e : EchS} (he : EchI p u e) (d : Int) (b : Bool) :
    CtrM Try.prog 160 [.d (.ptr (D.alg p u cs q)), .sl 5, .d (.int .i64 d), .fn (.func 162) [.p 3 0, .p 4 0]] ((5, .arr 78 1 (R.map D.ints)) :: spanO p u e b) [0, 3, 4, 5] true (.d (.bool true))
      ((5, .arr 78 1 (R.map D.ints)) :: spanO p u ((keepE hp hu).puts (e, b) (prods p u d R)).1 ((keepE hp hu).puts (e, b) (prods p u d R)).2) := by
  have h2 := pow_le6 hu
  have hp1 : 1 < p ∧ p ≤ 5 := by omega
  have hput : ∀ (e : EchS) (a : List Int), (keepE hp hu).put e a = (addE p u e a, !decide (ldI (restE p e a) < 0)) := fun _ _ => rfl
  refine CtrM.of (n := 49) (rs := [.tmp 8]) Try.func160 rfl rfl Try.ntmps160 rfl rfl (by kernel_rfl) Try.checked.mixed ?_; intro uM
  simp (disch := first | omega | decide +kernel) only [D.ints, D.alg, spanO, echO, go_sem, zqa, zqb, zqc, zqd, zqe, ↓reduceIte, reduceCtorEq, zqf, zqg, zqh]
  (repeat' (first | ((first | (refine gsel_split (fun q' => ?_) (fun q' => ?_) <;> (have h' := q') <;> (try simp only [decide_eq_true_eq, decide_eq_false_iff_not, zba, zbb, bne_iff_ne, ne_eq, beq_iff_eq, bne_eq_false_iff_eq, beq_eq_false_iff_ne, zia, zib, zic, zid, zda, zbc, zbd, zbe, gt_iff_lt, ge_iff_le] at h') <;> try (exfalso; omega)) | (have q' := trivial; first | refine hE _ _ ret_ne ?_ | refine hE _ _ exit_ne ?_)) <;> (try simp (disch := first | omega | decide +kernel) only [q', D.ints, go_sem, zqa, zqb, zqc, zqd, zqe, ↓reduceIte, reduceCtorEq, zqf, zqg, zqh]) <;> clear q') | (refine hN _ ?_ ?_ Wk.kk) | (with_reducible refine And.intro ?_ ?_) | (with_reducible omega) | (exact ok_ints) | (exact cells_ints) | (exact no_mem) | (with_reducible exact plain_ints) | (refine le_maxLen ?_; omega) | (refine List.forall_mem_cons.2 ⟨?_, ?_⟩) | (simp only [go_sem, zqc, zqb, List.mem_cons, List.not_mem_nil, forall_eq]; done)))
  refine Ok.loopN [48, 47, 46, 45, 44, 43, 42, 41, 40, 39, 38, 37, 36, 35, 34, 33, 32, 31, 30, 29, 28, 27, 26, 25, 24, 23, 22, 21, 20, 19, 18, 17, 16, 15, 14, 11, 10, 9, 7, 6, 5, 4] (fun i (_ : EchS × Bool) => [(14, .d (.int .i64 (i : Nat)))])
    (fun _ (q : EchS × Bool) => [(4, .box 4 [.d (.bool q.2)]), (2, .dp (some (78, 1)) (q.1.M.map D.ints) none), (1, .arr 78 1 (q.1.R.map D.ints)), (0, .box 142 [.d (.int .i64 p), .d (.int .i64 u), .sl 1, .sl 2, .d (.int .i64 (q.1.many : Nat))])]) R.length
    (fun i q => EchI p u q.1 ∧ q = (keepE hp hu).puts (e, b) (prods p u d (R.take i))) (e, b) ⟨he, rfl⟩ (by refine Wk.auto ?_ ?_ <;> simp [extraK, lk, killL, St.kill, wipeO, wipeS, AV.has, AV.hasL, AO.wipe, List.map_set, updSt, insL, dropS, ins, D.ints]) ?_
  rintro R2 i ⟨e1, b1⟩ hN0 hE0 hi2 ⟨he1, hq1⟩
  simp only at he1
  by_cases hlt2 : i < R.length
  · have hpr := prods_succ p u d R hlt2
    have hrm : R.getD i [] ∈ R := getD_mem (z := ([] : List Int)) hlt2
    have hr := hR _ hrm
    have hei := el_intss (xs := R) hlt2
    have c1 := degree_ok (v := R.getD i []) (by have := hr.1; omega)
    have hdb : -1 ≤ degD (R.getD i []) ∧ degD (R.getD i []) ≤ 6 := by rw [← deg_eq]; exact degT_bd _
    have hpk := prodsK_all (p := p) (u := u) (d := d) (r := R.getD i [])
    have hpn : ¬ degD (R.getD i []) < d → prodsR p u d (R.getD i []) = [] := fun h => by unfold prodsR; rw [if_neg h]
    generalize R.getD i [] = r at *
    by_cases hdr : degD r < d
    · rw [← hpk hdr] at hpr
      clear hpk hpn
      have hX : ∀ x, Vec p (2 ^ u) (mulX p u r x) := fun x => Vec.mulD (by omega) _ _ _
      have hT : ∀ x, Ctr Try.prog 88 [D.ring p u, .ints r, .ints (litD p u x)] true (.d (.ints (mulX p u r x))) [] := fun x => Ctr.data1 (times_ok hp1 hu hr (Vec.lit hp1.1 u x))
      generalize degD r = dr at *
      simp (disch := first | omega | decide +kernel) only [D.ints, hei, go_sem, zqa, zqb, zqc, zqd, zqe, ↓reduceIte, reduceCtorEq, zqf, zqg, zqh]
      (repeat' (first | ((first | (refine gsel_split (fun q' => ?_) (fun q' => ?_) <;> (have h' := q') <;> (try simp only [decide_eq_true_eq, decide_eq_false_iff_not, zba, zbb, bne_iff_ne, ne_eq, beq_iff_eq, bne_eq_false_iff_eq, beq_eq_false_iff_ne, zia, zib, zic, zid, zda, zbc, zbd, zbe, gt_iff_lt, ge_iff_le] at h') <;> try (exfalso; omega)) | (have q' := trivial; first | refine hE _ _ ret_ne ?_ | refine hE _ _ exit_ne ?_)) <;> (try simp (disch := first | omega | decide +kernel) only [q', D.ints, hei, go_sem, zqa, zqb, zqc, zqd, zqe, ↓reduceIte, reduceCtorEq, zqf, zqg, zqh]) <;> clear q') | (refine hN _ ?_ ?_ Wk.kk) | (with_reducible refine And.intro ?_ ?_) | (with_reducible omega) | (exact ok_ints) | (exact cells_ints) | (exact no_mem) | (with_reducible exact plain_ints) | (refine le_maxLen ?_; omega) | (refine List.forall_mem_cons.2 ⟨?_, ?_⟩) | (simp only [go_sem, zqc, zqb, List.mem_cons, List.not_mem_nil, forall_eq]; done)))
      all_goals (first | omega | skip)
      refine Ok.loopN [48, 47, 46, 45, 44, 43, 42, 41, 40, 39, 38, 37, 36, 35, 34, 33, 32, 31, 30, 29, 28, 27, 26, 25, 24, 23, 22, 21, 20, 19, 18, 17, 16, 15, 11, 9, 7, 6, 5, 4] (fun j (_ : EchS × Bool) => [(11, .d (.int .i64 ((j : Nat) + 1 : Int)))])
        (fun _ (q : EchS × Bool) => [(4, .box 4 [.d (.bool q.2)]), (2, .dp (some (78, 1)) (q.1.M.map D.ints) none), (1, .arr 78 1 (q.1.R.map D.ints)), (0, .box 142 [.d (.int .i64 p), .d (.int .i64 u), .sl 1, .sl 2, .d (.int .i64 (q.1.many : Nat))])]) u
        (fun j q => EchI p u q.1 ∧ q = (keepE hp hu).puts (e1, b1) (prodsK p u r j)) (e1, b1) ⟨he1, rfl⟩ (by refine Wk.auto ?_ ?_ <;> simp [extraK, lk, killL, St.kill, wipeO, wipeS, AV.has, AV.hasL, AO.wipe, List.map_set, updSt, insL, dropS, ins, D.ints]) ?_
      rintro R3 j ⟨e2, b2⟩ hN hE hj ⟨he2, hq2⟩
      simp only at he2
      by_cases hjt : j < u
      · have hk := prodsK_succ p u r j
        have c2 := literal_ok hp1 hu (l := (j : Int) + 1) (by unfold LitU; omega)
        have c3 := hT ((j : Int) + 1)
        have hXj := hX ((j : Int) + 1)
        have hq3 : (addE p u e2 (mulX p u r ((j : Int) + 1)), b2 || !decide (ldI (restE p e2 (mulX p u r ((j : Int) + 1))) < 0)) = (keepE hp hu).puts (e1, b1) (prodsK p u r (j + 1)) := by
          rw [hk, Keep.puts_snoc, ← hq2, hput]
        have he3 := (addE_ok hp hu he2 hXj).1
        have c4 := span1_ok hp hu he2 hXj b2
        clear hq1 hq2 hk hT hX
        generalize mulX p u r ((j : Int) + 1) = w at *
        generalize litD p u ((j : Int) + 1) = lt at *
        generalize addE p u e2 w = e4 at *
        generalize (b2 || !decide (ldI (restE p e2 w) < 0)) = b4 at *
        simp (disch := first | omega | decide +kernel) only [D.ints, hei, go_sem, zqa, zqb, zqc, zqd, zqe, ↓reduceIte, reduceCtorEq, zqf, zqg, zqh]
        (repeat' (first | ((first | (refine gsel_split (fun q' => ?_) (fun q' => ?_) <;> (have h' := q') <;> (try simp only [decide_eq_true_eq, decide_eq_false_iff_not, zba, zbb, bne_iff_ne, ne_eq, beq_iff_eq, bne_eq_false_iff_eq, beq_eq_false_iff_ne, zia, zib, zic, zid, zda, zbc, zbd, zbe, gt_iff_lt, ge_iff_le] at h') <;> try (exfalso; omega)) | (have q' := trivial; first | refine callX_new (c1) rfl (by decide) ?_ | refine callY_new (c1) rfl ?_ | refine callX_shared (c2) rfl (by decide) ?_ | refine callY_shared (c2) rfl ?_ | refine callX_shared (c3) rfl (by decide) ?_ | refine callY_shared (c3) rfl ?_ | refine callX_mut [0, 1, 2, 3, 4] [0, 1, 2, 3, 4] [1, 2] (c4) ⟨.inl rfl, .inl rfl, .inl rfl, trivial⟩ ⟨rfl, rfl, rfl, rfl, rfl, trivial⟩ rfl (by simp [dstB]) ?_ | refine hE _ _ ret_ne ?_ | refine hE _ _ exit_ne ?_)) <;> (try simp (disch := first | omega | decide +kernel) only [q', D.ints, hei, spanO, echO, go_sem, zqa, zqb, zqc, zqd, zqe, ↓reduceIte, reduceCtorEq, zqf, zqg, zqh]) <;> clear q') | (refine hN _ ?_ ?_ Wk.kk) | (with_reducible refine And.intro ?_ ?_) | (with_reducible omega) | (exact ok_ints) | (exact cells_ints) | (exact no_mem) | (with_reducible exact plain_ints) | (refine le_maxLen ?_; omega) | (refine List.forall_mem_cons.2 ⟨?_, ?_⟩) | (simp only [go_sem, zqc, zqb, List.mem_cons, List.not_mem_nil, forall_eq]; done)))
        all_goals (first | omega | (refine hN (e4, b4) _ hjt ⟨he3, hq3⟩ (by refine Wk.auto ?_ ?_ <;> simp [extraK, lk, killL, St.kill, wipeO, wipeS, AV.has, AV.hasL, AO.wipe, List.map_set, updSt, insL, dropS, ins, D.ints]); done))
      · obtain rfl : u = j := by omega
        have hq4 : (e2, b2) = (keepE hp hu).puts (e, b) (prods p u d (R.take (i + 1))) := by rw [hpr, Keep.puts_app, ← hq1, hq2]
        clear hq1 hq2 hT hX
        simp (disch := first | omega | decide +kernel) only [D.ints, hei, go_sem, zqa, zqb, zqc, zqd, zqe, ↓reduceIte, reduceCtorEq, zqf, zqg, zqh]
        (repeat' (first | ((first | (refine gsel_split (fun q' => ?_) (fun q' => ?_) <;> (have h' := q') <;> (try simp only [decide_eq_true_eq, decide_eq_false_iff_not, zba, zbb, bne_iff_ne, ne_eq, beq_iff_eq, bne_eq_false_iff_eq, beq_eq_false_iff_ne, zia, zib, zic, zid, zda, zbc, zbd, zbe, gt_iff_lt, ge_iff_le] at h') <;> try (exfalso; omega)) | (have q' := trivial; first | refine callX_new (c1) rfl (by decide) ?_ | refine callY_new (c1) rfl ?_ | refine hE _ _ ret_ne ?_ | refine hE _ _ exit_ne ?_)) <;> (try simp (disch := first | omega | decide +kernel) only [q', D.ints, hei, go_sem, zqa, zqb, zqc, zqd, zqe, ↓reduceIte, reduceCtorEq, zqf, zqg, zqh]) <;> clear q') | (refine hN _ ?_ ?_ Wk.kk) | (with_reducible refine And.intro ?_ ?_) | (with_reducible omega) | (exact ok_ints) | (exact cells_ints) | (exact no_mem) | (with_reducible exact plain_ints) | (refine le_maxLen ?_; omega) | (refine List.forall_mem_cons.2 ⟨?_, ?_⟩) | (simp only [go_sem, zqc, zqb, List.mem_cons, List.not_mem_nil, forall_eq]; done)))
        all_goals (first | omega | (refine hN0 (e2, b2) _ hlt2 ⟨he2, hq4⟩ (by refine Wk.auto ?_ ?_ <;> simp [extraK, lk, killL, St.kill, wipeO, wipeS, AV.has, AV.hasL, AO.wipe, List.map_set, updSt, insL, dropS, ins, D.ints]); done))
    · rw [hpn hdr, List.append_nil] at hpr
      rw [← hpr] at hq1
      clear hpk hpn
      generalize degD r = dr at *
      simp (disch := first | omega | decide +kernel) only [D.ints, hei, go_sem, zqa, zqb, zqc, zqd, zqe, ↓reduceIte, reduceCtorEq, zqf, zqg, zqh]
      (repeat' (first | ((first | (refine gsel_split (fun q' => ?_) (fun q' => ?_) <;> (have h' := q') <;> (try simp only [decide_eq_true_eq, decide_eq_false_iff_not, zba, zbb, bne_iff_ne, ne_eq, beq_iff_eq, bne_eq_false_iff_eq, beq_eq_false_iff_ne, zia, zib, zic, zid, zda, zbc, zbd, zbe, gt_iff_lt, ge_iff_le] at h') <;> try (exfalso; omega)) | (have q' := trivial; first | refine hE _ _ ret_ne ?_ | refine hE _ _ exit_ne ?_)) <;> (try simp (disch := first | omega | decide +kernel) only [q', D.ints, hei, go_sem, zqa, zqb, zqc, zqd, zqe, ↓reduceIte, reduceCtorEq, zqf, zqg, zqh]) <;> clear q') | (refine hN _ ?_ ?_ Wk.kk) | (with_reducible refine And.intro ?_ ?_) | (with_reducible omega) | (exact ok_ints) | (exact cells_ints) | (exact no_mem) | (with_reducible exact plain_ints) | (refine le_maxLen ?_; omega) | (refine List.forall_mem_cons.2 ⟨?_, ?_⟩) | (simp only [go_sem, zqc, zqb, List.mem_cons, List.not_mem_nil, forall_eq]; done)))
      all_goals (first | omega | skip)
      refine Ok.loopN [48, 47, 46, 45, 44, 43, 42, 41, 40, 39, 38, 37, 36, 35, 34, 33, 32, 31, 30, 29, 28, 27, 26, 25, 24, 23, 22, 21, 20, 19, 18, 17, 16, 15, 11, 9, 7, 6, 5, 4] (fun j (_ : Unit) => [(11, .d (.int .i64 ((j : Nat) + 1 : Int)))]) (fun _ _ => []) 1
        (fun j _ => j = 0) () rfl (by refine Wk.auto ?_ ?_ <;> simp [extraK, lk, killL, St.kill, wipeO, wipeS, AV.has, AV.hasL, AO.wipe, List.map_set, updSt, insL, dropS, ins, D.ints]) ?_
      rintro R3 j ⟨⟩ hN hE hj hj0
      subst hj0
      clear hN
      simp (disch := first | omega | decide +kernel) only [D.ints, hei, go_sem, zqa, zqb, zqc, zqd, zqe, ↓reduceIte, reduceCtorEq, zqf, zqg, zqh]
      (repeat' (first | ((first | (refine gsel_split (fun q' => ?_) (fun q' => ?_) <;> (have h' := q') <;> (try simp only [decide_eq_true_eq, decide_eq_false_iff_not, zba, zbb, bne_iff_ne, ne_eq, beq_iff_eq, bne_eq_false_iff_eq, beq_eq_false_iff_ne, zia, zib, zic, zid, zda, zbc, zbd, zbe, gt_iff_lt, ge_iff_le] at h') <;> try (exfalso; omega)) | (have q' := trivial; first | refine callX_new (c1) rfl (by decide) ?_ | refine callY_new (c1) rfl ?_ | refine hE _ _ ret_ne ?_ | refine hE _ _ exit_ne ?_)) <;> (try simp (disch := first | omega | decide +kernel) only [q', D.ints, hei, go_sem, zqa, zqb, zqc, zqd, zqe, ↓reduceIte, reduceCtorEq, zqf, zqg, zqh]) <;> clear q') | (refine hN _ ?_ ?_ Wk.kk) | (with_reducible refine And.intro ?_ ?_) | (with_reducible omega) | (exact ok_ints) | (exact cells_ints) | (exact no_mem) | (with_reducible exact plain_ints) | (refine le_maxLen ?_; omega) | (refine List.forall_mem_cons.2 ⟨?_, ?_⟩) | (simp only [go_sem, zqc, zqb, List.mem_cons, List.not_mem_nil, forall_eq]; done)))
      all_goals (first | omega | (refine hN0 (e1, b1) _ hlt2 ⟨he1, hq1⟩ (by refine Wk.auto ?_ ?_ <;> simp [extraK, lk, killL, St.kill, wipeO, wipeS, AV.has, AV.hasL, AO.wipe, List.map_set, updSt, insL, dropS, ins, D.ints]); done))
  · obtain rfl : i = R.length := by omega
    rw [List.take_length] at hq1
    rw [← hq1] at hE0
    have hE := hE0
    simp (disch := first | omega | decide +kernel) only [D.ints, go_sem, zqa, zqb, zqc, zqd, zqe, ↓reduceIte, reduceCtorEq, zqf, zqg, zqh]
    (repeat' (first | ((first | (refine gsel_split (fun q' => ?_) (fun q' => ?_) <;> (have h' := q') <;> (try simp only [decide_eq_true_eq, decide_eq_false_iff_not, zba, zbb, bne_iff_ne, ne_eq, beq_iff_eq, bne_eq_false_iff_eq, beq_eq_false_iff_ne, zia, zib, zic, zid, zda, zbc, zbd, zbe, gt_iff_lt, ge_iff_le] at h') <;> try (exfalso; omega)) | (have q' := trivial; first | refine hE _ _ ret_ne ?_ | refine hE _ _ exit_ne ?_)) <;> (try simp (disch := first | omega | decide +kernel) only [q', D.ints, go_sem, zqa, zqb, zqc, zqd, zqe, ↓reduceIte, reduceCtorEq, zqf, zqg, zqh]) <;> clear q') | (refine hN _ ?_ ?_ Wk.kk) | (with_reducible refine And.intro ?_ ?_) | (with_reducible omega) | (exact ok_ints) | (exact cells_ints) | (exact no_mem) | (with_reducible exact plain_ints) | (refine le_maxLen ?_; omega) | (refine List.forall_mem_cons.2 ⟨?_, ?_⟩) | (simp only [go_sem, zqc, zqb, List.mem_cons, List.not_mem_nil, forall_eq]; done)))
    all_goals (first | omega | skip)
    all_goals (refine retM_of (nth [0, 1, 2, 3, 4, 5]) rfl ?_ rfl ?_ ?_ ?_ (.inl rfl))
    all_goals (first | trivial | (simp [lk, nth, AO.ren, AV.renL, AV.ren]; done) | (simp [keptM, nth, lk]; done))
end
end Abs.Y

namespace Abs
open Go Go.Proofs
theorem Ctr.boxD1 {P : Program} {f : FuncId} {xs : List D} {e : TypeId} {x : D} {cells : List AV} (hc : cellsD cells x.cells) (h : Ctr P f xs true (.p 0 0) [(0, .box e cells)]) : Ctr P f xs true (.d (.ptr x)) [] := by
  refine ⟨h.1, fun S w vs hl hr => (h.2 S w vs hl hr).mono fun en w' ⟨v, he, hf, β, φ, hrel, hobj, hown, hdis⟩ => ⟨v, he, hf, β, φ, ?_, by simp [lk], by simp [lk], by simp [lk]⟩⟩
  obtain ⟨b, c, hb, hrd⟩ := rd_of_box (S' := free (fun g => w.heap.size ≤ g ∨ (true = true ∧ S g)) φ []) (hobj 0 (.box e cells) (by simp [lk])) hc (fun g hg _ => ⟨hg.1, by simp [lk]⟩) fun g hg => ⟨.inl (hown 0 (.box e cells) g (by simp [lk]) hg), by simp [lk]⟩
  cases hrel with
  | p h => rw [hb] at h; cases h; exact .d (by simpa using hrd)
theorem ret_p1 {P : Program} {t j : Nat} {e : TypeId} {cells : List AV} {st : St} (js : List Nat) (h : lk t (frzs js st).s = some (.p j 0)) (hj : lk j (frzs js st).o = some (.box e cells)) (hc : AV.renL (fun _ => j) cells = cells) :
    retQ P [.tmp t] true (.p 0 0) [(0, .box e cells)] .ret st := by
  refine .inr ⟨rfl, js, ?_⟩
  simp only [retO, resV, h]
  exact ⟨trivial, .one j rfl (by rw [hj, AO.ren, hc]), .inl trivial⟩
end Abs
namespace Abs.Y
open Go Go.Proofs Abs
open Nat renaming reduceEqDiff → zqa, reduceLT → zqb, reduceAdd → zqc, reduceMul → zqd, reduceSub → zqe, reduceLeDiff → zqf, reduceSubDiff → zqg, reduceBEq → zqh
open Bool renaming not_eq_true' → zba, not_eq_false' → zbb, and_eq_true → zbc, or_eq_true → zbd, or_eq_false_iff → zbe
open Int renaming ofNat_lt → zia, ofNat_le → zib, not_lt → zic, not_le → zid
open Decidable renaming not_not → zda
set_option maxRecDepth 100000

section
variable {p : Int} {u : Nat} (hp : p = 2 ∨ p = 3 ∨ p = 5) (hu : u ≤ 6)
def finE (cs : List (List Int)) (d : Int) : EchS := (keepE (p := p) (u := u) hp hu).fin cs d ⟨[], [], 0⟩
theorem finE_ok (cs : List (List Int)) (d : Int) : EchI p u (finE (p := p) (u := u) hp hu cs d) ∧ ∀ v, Sp p (2 ^ u) (finE (p := p) (u := u) hp hu cs d).R v ↔ Mn p u cs d v := by
  have h := (keepE (p := p) (u := u) hp hu).fin_ok (cs := cs) (d := d) (by omega) hu (s := ⟨[], [], 0⟩) EchI.nil rfl
  unfold finE
  generalize (keepE (p := p) (u := u) hp hu).fin cs d ⟨[], [], 0⟩ = X at *
  exact h
def rowsS (cs : List (List Int)) (d : Int) : List (List Int) := sortV (finE (p := p) (u := u) hp hu cs d).R (Lib.bitLen (finE (p := p) (u := u) hp hu cs d).R.length)
set_option maxHeartbeats 16000000 in
theorem span_ok {cs : List (List Int)} (hok : okCnf u cs = true) (d : Int) :
    Ctr Try.prog 152 [.ptr (D.alg p u cs (cs.map (clauseD p u))), .int .i64 d] true
      (.d (.ptr (D.ech p u (rowsS (p := p) (u := u) hp hu cs d) (List.replicate (rowsS (p := p) (u := u) hp hu cs d).length []) (finE (p := p) (u := u) hp hu cs d).many))) [] := by
  have h2 := pow_le6 hu
  have hp1 : 1 < p ∧ p ≤ 5 := by omega
  have h60 := cnf_len hok
  refine Ctr.boxD1 (e := 142) (cells := [.d (.int .i64 p), .d (.int .i64 u), .d (.slice ((rowsS (p := p) (u := u) hp hu cs d).map D.ints)), .d (.slice ((List.replicate (rowsS (p := p) (u := u) hp hu cs d).length []).map D.ints)), .d (.int .i64 (finE (p := p) (u := u) hp hu cs d).many)]) ⟨.inl rfl, .inl rfl, .inl rfl, .inl rfl, .inl rfl, trivial⟩ ?_
  have hput : ∀ (e : EchS) (a : List Int), (keepE (p := p) (u := u) hp hu).put e a = (addE p u e a, !decide (ldI (restE p e a) < 0)) := fun _ _ => rfl
  have hinv : ∀ e : EchS, (keepE (p := p) (u := u) hp hu).inv e = EchI p u e := fun _ => rfl
  have hql : (cs.map (clauseD p u)).length = cs.length := by simp
  refine Ctr.of (n := 66) (rs := [.tmp 4]) Try.func152 rfl rfl Try.ntmps152 rfl rfl (by kernel_rfl) Try.checked.mixed ?_
  simp (disch := first | omega | decide +kernel) only [D.ints, D.alg, go_sem, zqa, zqb, zqc, zqd, zqe, ↓reduceIte, reduceCtorEq, zqf, zqg, zqh]
  (repeat' (first | ((first | (refine gsel_split (fun q' => ?_) (fun q' => ?_) <;> (have h' := q') <;> (try simp only [decide_eq_true_eq, decide_eq_false_iff_not, zba, zbb, bne_iff_ne, ne_eq, beq_iff_eq, bne_eq_false_iff_eq, beq_eq_false_iff_ne, zia, zib, zic, zid, zda, zbc, zbd, zbe, gt_iff_lt, ge_iff_le] at h') <;> try (exfalso; omega)) | (have q' := trivial; first | refine hE _ _ ret_ne ?_ | refine hE _ _ exit_ne ?_)) <;> (try simp (disch := first | omega | decide +kernel) only [q', D.ints, go_sem, zqa, zqb, zqc, zqd, zqe, ↓reduceIte, reduceCtorEq, zqf, zqg, zqh]) <;> clear q') | (refine hN _ ?_ ?_ Wk.kk) | (with_reducible refine And.intro ?_ ?_) | (with_reducible omega) | (exact ok_ints) | (exact cells_ints) | (exact no_mem) | (with_reducible exact plain_ints) | (refine le_maxLen ?_; omega) | (refine List.forall_mem_cons.2 ⟨?_, ?_⟩) | (simp only [go_sem, zqc, zqb, List.mem_cons, List.not_mem_nil, forall_eq]; done)))
  refine Ok.loopN [65, 64, 63, 62, 61, 60, 59, 58, 57, 56, 55, 54, 53, 52, 51, 50, 49, 48, 47, 46, 45, 44, 43, 42, 41, 40, 39, 38, 37, 36, 35, 34, 33, 32, 31, 30, 29, 28, 27, 26, 25, 24, 23, 22, 21, 18, 17, 16, 15, 14, 13, 12, 11, 10, 9, 8, 7, 6, 3, 2] (fun i (_ : EchS) => [(21, .d (.int .i64 (i : Nat)))]) (fun _ (e : EchS) => echN 14 900000001 900000002 p u e) cs.length
    (fun i e => EchI p u e ∧ e = ((keepE (p := p) (u := u) hp hu).puts (⟨[], [], 0⟩, false) (clausesD p u d (cs.take i))).1) ⟨[], [], 0⟩ ⟨EchI.nil, rfl⟩
    ((Wk.nilObj 900000001 14 2 rfl rfl (by simp) (by decide) (e := 78) (k := 1) (by decide)).trans ((Wk.nilObj 900000002 14 3 (by simp (disch := first | omega | decide +kernel) only [setL, go_sem, zqa, zqb, zqc, zqd, zqe, ↓reduceIte, reduceCtorEq, zqf, zqg, zqh]; rfl) rfl (by simp [setL]) (by decide) (e := 78) (k := 1) (by decide)).trans
      ((Wk.deep 900000002 (by simp (disch := first | omega | decide +kernel) only [setL, go_sem, zqa, zqb, zqc, zqd, zqe, ↓reduceIte, reduceCtorEq, zqf, zqg, zqh]; rfl) (by simp [flat])).trans (by refine Wk.auto ?_ ?_ <;> simp [extraK, lk, killL, St.kill, wipeO, wipeS, AV.has, AV.hasL, AO.wipe, List.map_set, updSt, insL, dropS, ins, setL, D.ints])))) ?_
  rintro R0 i e hN hE hi ⟨he, hes⟩
  by_cases hlt : i < cs.length
  · have hsu := clausesD_succ p u d cs hlt
    have hCv := Vec.clause hp1.1 u (cs.getD i [])
    have hei := el_intss (xs := cs) hlt
    have hei2 : el ((cs.map (clauseD p u)).map D.ints) i = .slice ((clauseD p u (cs.getD i [])).map (.int .i64)) := by
      rw [el_intss (by omega), getD_mapz (clauseD p u) [] [] cs hlt]
    by_cases hle : ((cs.getD i []).length : Int) ≤ d
    · rw [if_pos hle] at hsu
      have hs2 : addE p u e (clauseD p u (cs.getD i [])) = ((keepE (p := p) (u := u) hp hu).puts (⟨[], [], 0⟩, false) (clausesD p u d (cs.take (i + 1)))).1 := by
        rw [hsu, Keep.puts_snoc, ← hes, hput]
      have he2 := (addE_ok hp hu he hCv).1
      have c2 := echAdd_ok hp hu he hCv
      clear hes
      generalize clauseD p u (cs.getD i []) = C at *
      generalize addE p u e C = e2 at *
      simp (disch := first | omega | decide +kernel) only [D.ints, hei, hei2, go_sem, zqa, zqb, zqc, zqd, zqe, ↓reduceIte, reduceCtorEq, zqf, zqg, zqh]
      (repeat' (first | ((first | (refine gsel_split (fun q' => ?_) (fun q' => ?_) <;> (have h' := q') <;> (try simp only [decide_eq_true_eq, decide_eq_false_iff_not, zba, zbb, bne_iff_ne, ne_eq, beq_iff_eq, bne_eq_false_iff_eq, beq_eq_false_iff_ne, zia, zib, zic, zid, zda, zbc, zbd, zbe, gt_iff_lt, ge_iff_le] at h') <;> try (exfalso; omega)) | (have q' := trivial; first | refine callX_mut [14, 900000001, 900000002] [14, 900000001, 900000002] [900000001, 900000002] (c2) ⟨.inl rfl, .inl rfl, trivial⟩ ⟨rfl, rfl, rfl, trivial⟩ rfl (by simp [dstB]) ?_ | refine hE _ _ ret_ne ?_ | refine hE _ _ exit_ne ?_)) <;> (try simp (disch := first | omega | decide +kernel) only [q', D.ints, hei, hei2, go_sem, zqa, zqb, zqc, zqd, zqe, ↓reduceIte, reduceCtorEq, zqf, zqg, zqh]) <;> clear q') | (refine hN _ ?_ ?_ Wk.kk) | (with_reducible refine And.intro ?_ ?_) | (with_reducible omega) | (exact ok_ints) | (exact cells_ints) | (exact no_mem) | (with_reducible exact plain_ints) | (refine le_maxLen ?_; omega) | (refine List.forall_mem_cons.2 ⟨?_, ?_⟩) | (simp only [go_sem, zqc, zqb, List.mem_cons, List.not_mem_nil, forall_eq]; done)))
      all_goals (first | omega | (refine hN e2 _ hlt ⟨he2, hs2⟩ (by refine Wk.auto ?_ ?_ <;> simp [extraK, lk, killL, St.kill, wipeO, wipeS, AV.has, AV.hasL, AO.wipe, List.map_set, updSt, insL, dropS, ins, D.ints]); done))
    · rw [if_neg hle, List.append_nil] at hsu
      rw [← hsu] at hes
      simp (disch := first | omega | decide +kernel) only [D.ints, hei, hei2, go_sem, zqa, zqb, zqc, zqd, zqe, ↓reduceIte, reduceCtorEq, zqf, zqg, zqh]
      (repeat' (first | ((first | (refine gsel_split (fun q' => ?_) (fun q' => ?_) <;> (have h' := q') <;> (try simp only [decide_eq_true_eq, decide_eq_false_iff_not, zba, zbb, bne_iff_ne, ne_eq, beq_iff_eq, bne_eq_false_iff_eq, beq_eq_false_iff_ne, zia, zib, zic, zid, zda, zbc, zbd, zbe, gt_iff_lt, ge_iff_le] at h') <;> try (exfalso; omega)) | (have q' := trivial; first | refine hE _ _ ret_ne ?_ | refine hE _ _ exit_ne ?_)) <;> (try simp (disch := first | omega | decide +kernel) only [q', D.ints, hei, hei2, go_sem, zqa, zqb, zqc, zqd, zqe, ↓reduceIte, reduceCtorEq, zqf, zqg, zqh]) <;> clear q') | (refine hN _ ?_ ?_ Wk.kk) | (with_reducible refine And.intro ?_ ?_) | (with_reducible omega) | (exact ok_ints) | (exact cells_ints) | (exact no_mem) | (with_reducible exact plain_ints) | (refine le_maxLen ?_; omega) | (refine List.forall_mem_cons.2 ⟨?_, ?_⟩) | (simp only [go_sem, zqc, zqb, List.mem_cons, List.not_mem_nil, forall_eq]; done)))
      all_goals (first | omega | (refine hN e _ hlt ⟨he, hes⟩ (by refine Wk.auto ?_ ?_ <;> simp [extraK, lk, killL, St.kill, wipeO, wipeS, AV.has, AV.hasL, AO.wipe, List.map_set, updSt, insL, dropS, ins, D.ints]); done))
  · obtain rfl : i = cs.length := by omega
    rw [List.take_length] at hes
    obtain ⟨E0, hE0⟩ : ∃ E0, E0 = (keepE (p := p) (u := u) hp hu).base cs d ⟨[], [], 0⟩ := ⟨_, rfl⟩
    have hLb : e = E0 := by rw [hes, hE0]; rfl
    rw [← hLb] at hE0
    clear hes hN hLb
    have hfin : ((keepE (p := p) (u := u) hp hu).it d e 65).1 = finE (p := p) (u := u) hp hu cs d := by unfold finE Keep.fin; rw [hE0]
    have hit := fun i => (keepE (p := p) (u := u) hp hu).it_inv hp1.1 (d := d) (s := e) he i
    simp only [hinv] at hit
    have hbd := fun i => (keepE (p := p) (u := u) hp hu).it_bd hp1.1 hu (d := d) (s := e) he (i := i)
    have hend := fun i => (keepE (p := p) (u := u) hp hu).it_end hp1.1 hu (d := d) (s := e) he (i := i)
    simp only [hfin] at hend
    clear hfin hE0
    simp (disch := first | omega | decide +kernel) only [D.ints, go_sem, zqa, zqb, zqc, zqd, zqe, ↓reduceIte, reduceCtorEq, zqf, zqg, zqh]
    (repeat' (first | ((first | (refine gsel_split (fun q' => ?_) (fun q' => ?_) <;> (have h' := q') <;> (try simp only [decide_eq_true_eq, decide_eq_false_iff_not, zba, zbb, bne_iff_ne, ne_eq, beq_iff_eq, bne_eq_false_iff_eq, beq_eq_false_iff_ne, zia, zib, zic, zid, zda, zbc, zbd, zbe, gt_iff_lt, ge_iff_le] at h') <;> try (exfalso; omega)) | (have q' := trivial; first | refine hE _ _ ret_ne ?_ | refine hE _ _ exit_ne ?_)) <;> (try simp (disch := first | omega | decide +kernel) only [q', D.ints, go_sem, zqa, zqb, zqc, zqd, zqe, ↓reduceIte, reduceCtorEq, zqf, zqg, zqh]) <;> clear q') | (refine hN _ ?_ ?_ Wk.kk) | (with_reducible refine And.intro ?_ ?_) | (with_reducible omega) | (exact ok_ints) | (exact cells_ints) | (exact no_mem) | (with_reducible exact plain_ints) | (refine le_maxLen ?_; omega) | (refine List.forall_mem_cons.2 ⟨?_, ?_⟩) | (simp only [go_sem, zqc, zqb, List.mem_cons, List.not_mem_nil, forall_eq]; done)))
    all_goals (first | omega | skip)
    refine Ok.weak (Wk.swp 8 9) ?_
    simp (disch := first | omega | decide +kernel) only [swpS, swpO, swp, AV.ren, AV.renL, AO.ren, go_sem, zqa, zqb, zqc, zqd, zqe, ↓reduceIte, reduceCtorEq, zqf, zqg, zqh]
    refine Ok.loopN [65, 64, 63, 62, 61, 60, 59, 58, 57, 56, 55, 54, 53, 52, 51, 50, 49, 48, 47, 46, 45, 44, 43, 42, 41, 40, 39, 38, 37, 36, 35, 34, 33, 32, 31, 30, 29, 28, 27, 26, 25, 24, 23, 22, 21, 20, 19, 18, 17, 16, 15, 14, 13, 12, 11, 10, 9, 8, 7, 6, 3, 2] (fun _ (_ : EchS × Bool) => [(8, .p 9 0)]) (fun _ (q : EchS × Bool) => [(9, .box 4 [.d (.bool q.2)]), (900000002, .dp (some (78, 1)) (q.1.M.map D.ints) none), (900000001, .arr 78 1 (q.1.R.map D.ints)), (14, .box 142 [.d (.int .i64 p), .d (.int .i64 u), .sl 900000001, .sl 900000002, .d (.int .i64 (q.1.many : Nat))])]) 66
      (fun i q => q = (keepE (p := p) (u := u) hp hu).it d e i) (e, true) rfl (by refine Wk.auto ?_ ?_ <;> simp [extraK, lk, killL, St.kill, wipeO, wipeS, AV.has, AV.hasL, AO.wipe, List.map_set, updSt, insL, dropS, ins, D.ints]) ?_
    rintro R1 k ⟨A, b⟩ hN hE hk hq
    have hAi := hit k
    have hbk := hbd k
    have hek := hend k
    have hqs : (keepE (p := p) (u := u) hp hu).it d e (k + 1) = (keepE (p := p) (u := u) hp hu).puts (A, false) (prods p u d A.R) := by
      show (keepE (p := p) (u := u) hp hu).round d ((keepE (p := p) (u := u) hp hu).it d e k).1 = _
      rw [← hq]; rfl
    rw [← hq] at hAi hbk hek
    simp only at hAi hbk hek
    clear hq hit hbd hend
    cases b with
    | false =>
      have e1 := hek rfl
      have hbd2 := (hAi.toP hu).bd
      have hl : ∀ x ∈ A.R, x.length ≤ 64 := fun x hx => by have := (hAi.ech.vec x hx).1; omega
      have c1 := sortRows_ok A.R (by omega) hl
      have hsl := sortV_length hl (Lib.bitLen A.R.length)
      rw [show rowsS (p := p) (u := u) hp hu cs d = sortV A.R (Lib.bitLen A.R.length) by unfold rowsS; rw [← e1], ← e1] at hE
      clear hek hbk e1
      generalize sortV A.R (Lib.bitLen A.R.length) = S at *
      have er : (List.replicate S.length ([] : List Int)).map D.ints = List.replicate S.length (D.slice []) := by rw [List.map_replicate]; rfl
      rw [er] at hE
      simp (disch := first | omega | decide +kernel) only [D.ints, go_sem, zqa, zqb, zqc, zqd, zqe, ↓reduceIte, reduceCtorEq, zqf, zqg, zqh]
      (repeat' (first | ((first | (refine gsel_split (fun q' => ?_) (fun q' => ?_) <;> (have h' := q') <;> (try simp only [decide_eq_true_eq, decide_eq_false_iff_not, zba, zbb, bne_iff_ne, ne_eq, beq_iff_eq, bne_eq_false_iff_eq, beq_eq_false_iff_ne, zia, zib, zic, zid, zda, zbc, zbd, zbe, gt_iff_lt, ge_iff_le] at h') <;> try (exfalso; omega)) | (have q' := trivial; first | refine callX_mut [900000001] [900000001] [] (c1) ⟨.inl rfl, .inl rfl, trivial⟩ ⟨rfl, trivial⟩ rfl (by simp [dstB]) ?_ | refine hE _ _ ret_ne ?_ | refine hE _ _ exit_ne ?_)) <;> (try simp (disch := first | omega | decide +kernel) only [q', D.ints, go_sem, zqa, zqb, zqc, zqd, zqe, ↓reduceIte, reduceCtorEq, zqf, zqg, zqh]) <;> clear q') | (refine hN _ ?_ ?_ Wk.kk) | (with_reducible refine And.intro ?_ ?_) | (with_reducible omega) | (exact ok_ints) | (exact cells_ints) | (exact no_mem) | (with_reducible exact plain_ints) | (refine le_maxLen ?_; omega) | (refine List.forall_mem_cons.2 ⟨?_, ?_⟩) | (simp only [go_sem, zqc, zqb, List.mem_cons, List.not_mem_nil, forall_eq]; done)))
      all_goals (first | omega | exact ret_p1 [900000001, 62] rfl rfl rfl)
    | true =>
      have hk64 := hbk rfl
      clear hbk hek
      have hAl := (hAi.toP hu).bd
      have c1 := cloneRows_ok A.R (by omega)
      have c2 := liftedAdd_ok (cs := cs) (q := cs.map (clauseD p u)) hp hu hAi.ech.vec hAl hAi d false
      rw [← hqs] at c2
      have hN1 := hN
      clear hN
      simp (disch := first | omega | decide +kernel) only [D.ints, go_sem, zqa, zqb, zqc, zqd, zqe, ↓reduceIte, reduceCtorEq, zqf, zqg, zqh]
      (repeat' (first | ((first | (refine gsel_split (fun q' => ?_) (fun q' => ?_) <;> (have h' := q') <;> (try simp only [decide_eq_true_eq, decide_eq_false_iff_not, zba, zbb, bne_iff_ne, ne_eq, beq_iff_eq, bne_eq_false_iff_eq, beq_eq_false_iff_ne, zia, zib, zic, zid, zda, zbc, zbd, zbe, gt_iff_lt, ge_iff_le] at h') <;> try (exfalso; omega)) | (have q' := trivial; first | refine callX_mut [900000001] [900000001, 900000046] [900000046] (c1) ⟨.inl rfl, trivial⟩ ⟨rfl, trivial⟩ rfl (by simp [dstB]) ?_ | refine callX_mut [14, 900000001, 900000002, 5, 9, 900000046] [14, 900000001, 900000002, 5, 9, 900000046] [900000001, 900000002] (c2) ⟨.inl rfl, .inl rfl, .inl rfl, .inl rfl, trivial⟩ ⟨rfl, rfl, rfl, rfl, rfl, rfl, trivial⟩ rfl (by simp [dstB]) ?_ | refine hE _ _ ret_ne ?_ | refine hE _ _ exit_ne ?_)) <;> (try simp (disch := first | omega | decide +kernel) only [q', D.ints, D.alg, spanO, echO, go_sem, zqa, zqb, zqc, zqd, zqe, ↓reduceIte, reduceCtorEq, zqf, zqg, zqh]) <;> clear q') | (refine hN _ ?_ ?_ Wk.kk) | (with_reducible refine And.intro ?_ ?_) | (with_reducible omega) | (exact ok_ints) | (exact cells_ints) | (exact no_mem) | (with_reducible exact plain_ints) | (refine le_maxLen ?_; omega) | (refine List.forall_mem_cons.2 ⟨?_, ?_⟩) | (simp only [go_sem, zqc, zqb, List.mem_cons, List.not_mem_nil, forall_eq]; done)))
      all_goals (first | omega | skip)
      all_goals (refine hN1 ((keepE (p := p) (u := u) hp hu).it d e (k + 1)) _ (by omega) rfl ((Wk.swp 8 9).trans (by refine Wk.auto ?_ ?_ <;> simp [extraK, lk, killL, St.kill, wipeO, wipeS, AV.has, AV.hasL, AO.wipe, List.map_set, updSt, insL, dropS, ins, swpS, swpO, swp, AV.ren, AV.renL, AO.ren])))
end
end Abs.Y
