/- What functions of this program compute, as contracts over plain data, with what the proofs need of them. No condition. -/
import Derived.Test.YtfaamimlkogcpaaD17
import Derived.Test.YtfaamimlkogcpaaAbsShelf
set_option linter.all false
namespace Abs.Y
open Go Go.Proofs Abs
open Nat renaming reduceEqDiff → zqa, reduceLT → zqb, reduceAdd → zqc, reduceMul → zqd, reduceSub → zqe, reduceLeDiff → zqf, reduceSubDiff → zqg, reduceBEq → zqh
open Bool renaming not_eq_true' → zba, not_eq_false' → zbb, and_eq_true → zbc, or_eq_true → zbd, or_eq_false_iff → zbe
open Int renaming ofNat_lt → zia, ofNat_le → zib, not_lt → zic, not_le → zid
open Decidable renaming not_not → zda
set_option maxRecDepth 100000

structure SpanI (p : Int) (u : Nat) (cs : List (List Int)) (d : Int) (R M : List (List Int)) (many : Nat) : Prop where
  ech : Ech p (2 ^ u) ldG R
  sp : ∀ v, Sp p (2 ^ u) R v ↔ Mn p u cs d v
  toP : EchP p u R M many
theorem span_ex {p : Int} {u : Nat} (hp : p = 2 ∨ p = 3 ∨ p = 5) (hu : u ≤ 6) {cs : List (List Int)} (hok : okCnf u cs = true) (d : Int) :
    ∃ R M many, SpanI p u cs d R M many ∧ R.length = (basR hp hu cs d).length ∧ Ctr Try.prog 152 [.ptr (D.alg p u cs (cs.map (clauseD p u))), .int .i64 d] true (.d (.ptr (D.ech p u R M many))) [] := by
  have h64 := pow_le6 hu
  obtain ⟨h1, h2⟩ := finE_ok (p := p) (u := u) hp hu cs d
  have c := span_ok (p := p) (u := u) hp hu hok d
  have hl : ∀ x ∈ (finE (p := p) (u := u) hp hu cs d).R, x.length ≤ 64 := fun x hx => by have := (h1.ech.vec x hx).1; omega
  have hpm : (rowsS (p := p) (u := u) hp hu cs d).Perm (finE (p := p) (u := u) hp hu cs d).R := sortV_perm hl _
  have hb := basR_ok hp hu cs d
  have hbd := ech_bd h64 h1.ech
  have hm := h1.many
  generalize rowsS (p := p) (u := u) hp hu cs d = R at *
  generalize finE (p := p) (u := u) hp hu cs d = e at *
  have hE : Ech p (2 ^ u) ldG R := h1.ech.perm hpm.symm
  have hS : ∀ v, Sp p (2 ^ u) R v ↔ Mn p u cs d v := fun v => (SpEq.perm (by omega) hE.vec hpm v).trans (h2 v)
  refine ⟨R, _, _, ⟨hE, hS, ⟨hE.vec, fun r hr => hE.nz hr, by simp, fun m hm => ?_, by have := hpm.length_eq; omega, by omega⟩⟩, ?_, c⟩
  · rw [List.eq_of_mem_replicate hm]
    exact ⟨by simp, ⟨rfl, fun i => by simp; omega⟩⟩
  · exact ech_len (by omega) h64 hE hb.1.ech fun v => (hS v).trans (hb.2 v).symm
theorem terms_ok {v : List Int} (hl : v.length ≤ 64) : Ctr Try.prog 42 [.ints v] true (.d (D.sp v)) [] := by
  refine Ctr.of (n := 23) (rs := [.tmp 2]) Try.func42 rfl rfl Try.ntmps42 rfl rfl (by kernel_rfl) Try.checked.mixed ?_
  simp (disch := first | omega | decide +kernel) only [D.ints, go_sem, zqa, zqb, zqc, zqd, zqe, ↓reduceIte, reduceCtorEq, zqf, zqg, zqh]
  (repeat' (first | ((first | (refine gsel_split (fun q' => ?_) (fun q' => ?_) <;> (have h' := q') <;> (try simp only [decide_eq_true_eq, decide_eq_false_iff_not, zba, zbb, bne_iff_ne, ne_eq, beq_iff_eq, bne_eq_false_iff_eq, beq_eq_false_iff_ne, zia, zib, zic, zid, zda, zbc, zbd, zbe, gt_iff_lt, ge_iff_le] at h') <;> try (exfalso; omega)) | (have q' := trivial; first | refine hE _ _ ret_ne ?_ | refine hE _ _ exit_ne ?_)) <;> (try simp (disch := first | omega | decide +kernel) only [q', D.ints, go_sem, zqa, zqb, zqc, zqd, zqe, ↓reduceIte, reduceCtorEq, zqf, zqg, zqh]) <;> clear q') | (refine hN _ ?_ ?_ Wk.kk) | (with_reducible refine And.intro ?_ ?_) | (with_reducible omega) | (exact ok_ints) | (exact cells_ints) | (exact no_mem) | (with_reducible exact plain_ints) | (refine le_maxLen ?_; omega) | (refine List.forall_mem_cons.2 ⟨?_, ?_⟩) | (simp only [go_sem, zqc, zqb, List.mem_cons, List.not_mem_nil, forall_eq]; done)))
  refine Ok.loopN [21, 20, 19, 18, 17, 16, 15, 14, 13, 12, 11, 10, 9, 8, 5, 4, 3, 1, 0] (fun i _ => [(8, .d (.int .i64 (i : Nat))), (3, .sl 3)]) (fun _ (w : List (Int × Int)) => [(3, .arr 84 2 (List.map D.tm w))]) v.length
    (fun i w => w = ((List.range i).filter fun m => decide (v.getD m 0 ≠ 0)).map (fun m : Nat => ((m : Int), v.getD m 0)) ∧ w.length ≤ i) [] ⟨rfl, Nat.le_refl _⟩ (by refine Wk.auto ?_ ?_ <;> simp [extraK, lk, killL, St.kill, wipeO, wipeS, AV.has, AV.hasL, AO.wipe, List.map_set, updSt, insL, dropS, ins, D.ints]) ?_
  rintro R i w hN hE hi ⟨hw, hwl⟩
  by_cases hlt : i < v.length
  · have hs : ((List.range (i + 1)).filter fun m => decide (v.getD m 0 ≠ 0)).map (fun m : Nat => ((m : Int), v.getD m 0)) = if v.getD i 0 = 0 then w else w ++ [((i : Int), v.getD i 0)] := by
      rw [List.range_succ, List.filter_append, List.map_append, ← hw]
      by_cases hz : v.getD i 0 = 0
      · rw [if_pos hz, List.filter_cons_of_neg (by rw [decide_eq_true_eq]; exact fun h => h hz)]; simp
      · rw [if_neg hz, List.filter_cons_of_pos (by rw [decide_eq_true_eq]; exact hz)]; simp only [List.filter_nil, List.map_cons, List.map_nil]
    clear hw
    by_cases hz : v.getD i 0 = 0
    · rw [if_pos hz] at hs
      have hb : (v.getD i 0 != 0) = false := by rw [hz]; rfl
      simp (disch := first | omega | decide +kernel) only [hb, go_sem, zqa, zqb, zqc, zqd, zqe, ↓reduceIte, reduceCtorEq, zqf, zqg, zqh]
      (repeat' (first | ((first | (refine gsel_split (fun q' => ?_) (fun q' => ?_) <;> (have h' := q') <;> (try simp only [decide_eq_true_eq, decide_eq_false_iff_not, zba, zbb, bne_iff_ne, ne_eq, beq_iff_eq, bne_eq_false_iff_eq, beq_eq_false_iff_ne, zia, zib, zic, zid, zda, zbc, zbd, zbe, gt_iff_lt, ge_iff_le] at h') <;> try (exfalso; omega)) | (have q' := trivial; first | refine hE _ _ ret_ne ?_ | refine hE _ _ exit_ne ?_)) <;> (try simp (disch := first | omega | decide +kernel) only [q', hb, go_sem, zqa, zqb, zqc, zqd, zqe, ↓reduceIte, reduceCtorEq, zqf, zqg, zqh]) <;> clear q') | (refine hN _ ?_ ?_ Wk.kk) | (with_reducible refine And.intro ?_ ?_) | (with_reducible omega) | (exact ok_ints) | (exact cells_ints) | (exact no_mem) | (with_reducible exact plain_ints) | (refine le_maxLen ?_; omega) | (refine List.forall_mem_cons.2 ⟨?_, ?_⟩) | (simp only [go_sem, zqc, zqb, List.mem_cons, List.not_mem_nil, forall_eq]; done)))
      all_goals (first | omega | (refine hN w _ hlt ⟨hs.symm, by omega⟩ (by refine Wk.auto ?_ ?_ <;> simp [extraK, lk, killL, St.kill, wipeO, wipeS, AV.has, AV.hasL, AO.wipe, List.map_set, updSt, insL, dropS, ins, D.ints]); done))
    · rw [if_neg hz] at hs
      have hb : (v.getD i 0 != 0) = true := bne_iff_ne.2 hz
      simp (disch := first | omega | decide +kernel) only [hb, go_sem, zqa, zqb, zqc, zqd, zqe, ↓reduceIte, reduceCtorEq, zqf, zqg, zqh]
      (repeat' (first | ((first | (refine gsel_split (fun q' => ?_) (fun q' => ?_) <;> (have h' := q') <;> (try simp only [decide_eq_true_eq, decide_eq_false_iff_not, zba, zbb, bne_iff_ne, ne_eq, beq_iff_eq, bne_eq_false_iff_eq, beq_eq_false_iff_ne, zia, zib, zic, zid, zda, zbc, zbd, zbe, gt_iff_lt, ge_iff_le] at h') <;> try (exfalso; omega)) | (have q' := trivial; first | refine hE _ _ ret_ne ?_ | refine hE _ _ exit_ne ?_)) <;> (try simp (disch := first | omega | decide +kernel) only [q', hb, go_sem, zqa, zqb, zqc, zqd, zqe, ↓reduceIte, reduceCtorEq, zqf, zqg, zqh]) <;> clear q') | (refine hN _ ?_ ?_ Wk.kk) | (with_reducible refine And.intro ?_ ?_) | (with_reducible omega) | (exact ok_ints) | (exact cells_ints) | (exact no_mem) | (with_reducible exact plain_ints) | (refine le_maxLen ?_; omega) | (refine List.forall_mem_cons.2 ⟨?_, ?_⟩) | (simp only [go_sem, zqc, zqb, List.mem_cons, List.not_mem_nil, forall_eq]; done)))
      all_goals (first | omega | (rw [ok_agg]; simp [D.atom]; done) | (refine hN (w ++ [((i : Int), v.getD i 0)]) _ hlt ⟨hs.symm, by simp; omega⟩ (by refine Wk.auto ?_ ?_ <;> simp [extraK, lk, killL, St.kill, wipeO, wipeS, AV.has, AV.hasL, AO.wipe, List.map_set, updSt, insL, dropS, ins, D.ints, List.map_append, List.map_cons, List.map_nil]); done))
  · obtain rfl : i = v.length := by omega
    have hw2 : w = spT v := by rw [hw, spT]
    clear hw
    subst hw2
    simp (disch := first | omega | decide +kernel) only [go_sem, zqa, zqb, zqc, zqd, zqe, ↓reduceIte, reduceCtorEq, zqf, zqg, zqh]
    (repeat' (first | ((first | (refine gsel_split (fun q' => ?_) (fun q' => ?_) <;> (have h' := q') <;> (try simp only [decide_eq_true_eq, decide_eq_false_iff_not, zba, zbb, bne_iff_ne, ne_eq, beq_iff_eq, bne_eq_false_iff_eq, beq_eq_false_iff_ne, zia, zib, zic, zid, zda, zbc, zbd, zbe, gt_iff_lt, ge_iff_le] at h') <;> try (exfalso; omega)) | (have q' := trivial; first | refine hE _ _ ret_ne ?_ | refine hE _ _ exit_ne ?_)) <;> (try simp (disch := first | omega | decide +kernel) only [q', go_sem, zqa, zqb, zqc, zqd, zqe, ↓reduceIte, reduceCtorEq, zqf, zqg, zqh]) <;> clear q') | (refine hN _ ?_ ?_ Wk.kk) | (with_reducible refine And.intro ?_ ?_) | (with_reducible omega) | (exact ok_ints) | (exact cells_ints) | (exact no_mem) | (with_reducible exact plain_ints) | (refine le_maxLen ?_; omega) | (refine List.forall_mem_cons.2 ⟨?_, ?_⟩) | (simp only [go_sem, zqc, zqb, List.mem_cons, List.not_mem_nil, forall_eq]; done)))
    all_goals (first | omega | exact ret_s1 [3] rfl)
def askB (p v : Int) (cs : List (List Int)) : Bool := primeB p v && okCnf v cs
theorem spanOfBad_ok (p v : Int) (cs : List (List Int)) (d : Int) (hb : (askB p v cs && degB d) = false) (hcl : cs.length ≤ 1048576) (hc : ∀ j, (cs.getD j []).length ≤ 1048576) :
    Ctr Try.prog 142 [.int .i64 p, .agg [.int .i64 v, .slice (cs.map D.ints)], .int .i64 d] true (.tup [.d .nilptr, .d .nilptr, .d (.bool false)]) [] := by
  have c2 := degreeOk_ok d
  cases h1 : askB p v cs with
  | false =>
    have c1 := algebraBad_ok p v cs h1 (by omega) (fun j => by have := hc j; omega)
    refine Ctr.of (n := 28) (rs := [.tmp 6, .tmp 7, .tmp 8]) Try.func142 rfl rfl Try.ntmps142 rfl rfl (by kernel_rfl) Try.checked.mixed ?_
    simp (disch := first | omega | decide +kernel) only [D.ints, go_sem, zqa, zqb, zqc, zqd, zqe, ↓reduceIte, reduceCtorEq, zqf, zqg, zqh]
    (repeat' (first | ((first | (refine gsel_split (fun q' => ?_) (fun q' => ?_) <;> (have h' := q') <;> (try simp only [decide_eq_true_eq, decide_eq_false_iff_not, zba, zbb, bne_iff_ne, ne_eq, beq_iff_eq, bne_eq_false_iff_eq, beq_eq_false_iff_ne, zia, zib, zic, zid, zda, zbc, zbd, zbe, gt_iff_lt, ge_iff_le] at h') <;> try (exfalso; omega)) | (have q' := trivial; first | refine callX_shared (c1) rfl (by decide) ?_ | refine callY_shared (c1) rfl ?_ | refine hE _ _ ret_ne ?_ | refine hE _ _ exit_ne ?_)) <;> (try simp (disch := first | omega | decide +kernel) only [q', D.ints, go_sem, zqa, zqb, zqc, zqd, zqe, ↓reduceIte, reduceCtorEq, zqf, zqg, zqh]) <;> clear q') | (refine hN _ ?_ ?_ Wk.kk) | (with_reducible refine And.intro ?_ ?_) | (with_reducible omega) | (exact ok_ints) | (exact cells_ints) | (exact no_mem) | (with_reducible exact plain_ints) | (refine le_maxLen ?_; omega) | (refine List.forall_mem_cons.2 ⟨?_, ?_⟩) | (simp only [go_sem, zqc, zqb, List.mem_cons, List.not_mem_nil, forall_eq]; done)))
    all_goals (first | omega | exact ret_t3 [] rfl rfl rfl)
  | true =>
    rw [h1, Bool.true_and] at hb
    rw [hb] at c2
    have h2 := h1
    unfold askB at h2
    rw [zbc] at h2
    obtain ⟨hp, hv⟩ := primeB_235 h2.1
    obtain ⟨u, rfl⟩ : ∃ u : Nat, v = u := ⟨v.toNat, by omega⟩
    have c1 := algebraOf_ok (p := p) (by omega) (by omega) h2.1 h2.2 (by omega) (fun j => by have := hc j; omega)
    refine Ctr.of (n := 28) (rs := [.tmp 6, .tmp 7, .tmp 8]) Try.func142 rfl rfl Try.ntmps142 rfl rfl (by kernel_rfl) Try.checked.mixed ?_
    simp (disch := first | omega | decide +kernel) only [D.ints, go_sem, zqa, zqb, zqc, zqd, zqe, ↓reduceIte, reduceCtorEq, zqf, zqg, zqh]
    (repeat' (first | ((first | (refine gsel_split (fun q' => ?_) (fun q' => ?_) <;> (have h' := q') <;> (try simp only [decide_eq_true_eq, decide_eq_false_iff_not, zba, zbb, bne_iff_ne, ne_eq, beq_iff_eq, bne_eq_false_iff_eq, beq_eq_false_iff_ne, zia, zib, zic, zid, zda, zbc, zbd, zbe, gt_iff_lt, ge_iff_le] at h') <;> try (exfalso; omega)) | (have q' := trivial; first | refine callX_shared (c1) rfl (by decide) ?_ | refine callY_shared (c1) rfl ?_ | refine callX_new (c2) rfl (by decide) ?_ | refine callY_new (c2) rfl ?_ | refine hE _ _ ret_ne ?_ | refine hE _ _ exit_ne ?_)) <;> (try simp (disch := first | omega | decide +kernel) only [q', D.ints, go_sem, zqa, zqb, zqc, zqd, zqe, ↓reduceIte, reduceCtorEq, zqf, zqg, zqh]) <;> clear q') | (refine hN _ ?_ ?_ Wk.kk) | (with_reducible refine And.intro ?_ ?_) | (with_reducible omega) | (exact ok_ints) | (exact cells_ints) | (exact no_mem) | (with_reducible exact plain_ints) | (refine le_maxLen ?_; omega) | (refine List.forall_mem_cons.2 ⟨?_, ?_⟩) | (simp only [go_sem, zqc, zqb, List.mem_cons, List.not_mem_nil, forall_eq]; done)))
    all_goals (first | omega | exact ret_t3 [] rfl rfl rfl)
theorem remBad_ok (p v : Int) (cs : List (List Int)) (d : Int) (hb : (askB p v cs && degB d) = false) (hcl : cs.length ≤ 1048576) (hc : ∀ j, (cs.getD j []).length ≤ 1048576) (a : List (Int × Int)) :
    Ctr Try.prog 118 [.int .i64 p, .agg [.int .i64 v, .slice (cs.map D.ints)], .int .i64 d, D.tms a] true (.tup [.d (.slice []), .d (.bool false)]) [] := by
  have c1 := spanOfBad_ok p v cs d hb hcl hc
  refine Ctr.of (n := 47) (rs := [.tmp 8, .tmp 9]) Try.func118 rfl rfl Try.ntmps118 rfl rfl (by kernel_rfl) Try.checked.mixed ?_
  simp (disch := first | omega | decide +kernel) only [D.ints, go_sem, zqa, zqb, zqc, zqd, zqe, ↓reduceIte, reduceCtorEq, zqf, zqg, zqh]
  (repeat' (first | ((first | (refine gsel_split (fun q' => ?_) (fun q' => ?_) <;> (have h' := q') <;> (try simp only [decide_eq_true_eq, decide_eq_false_iff_not, zba, zbb, bne_iff_ne, ne_eq, beq_iff_eq, bne_eq_false_iff_eq, beq_eq_false_iff_ne, zia, zib, zic, zid, zda, zbc, zbd, zbe, gt_iff_lt, ge_iff_le] at h') <;> try (exfalso; omega)) | (have q' := trivial; first | refine callX_shared (c1) rfl (by decide) ?_ | refine callY_shared (c1) rfl ?_ | refine hE _ _ ret_ne ?_ | refine hE _ _ exit_ne ?_)) <;> (try simp (disch := first | omega | decide +kernel) only [q', D.ints, go_sem, zqa, zqb, zqc, zqd, zqe, ↓reduceIte, reduceCtorEq, zqf, zqg, zqh]) <;> clear q') | (refine hN _ ?_ ?_ Wk.kk) | (with_reducible refine And.intro ?_ ?_) | (with_reducible omega) | (exact ok_ints) | (exact cells_ints) | (exact no_mem) | (with_reducible exact plain_ints) | (refine le_maxLen ?_; omega) | (refine List.forall_mem_cons.2 ⟨?_, ?_⟩) | (simp only [go_sem, zqc, zqb, List.mem_cons, List.not_mem_nil, forall_eq]; done)))
  all_goals (first | omega | exact ret_s2 [8] rfl rfl)
section
variable {p : Int} {u : Nat} (hp : p = 2 ∨ p = 3 ∨ p = 5) (hu : u ≤ 6)
include hp hu
theorem rem_ok {cs : List (List Int)} (h1 : askB p u cs = true) {d : Int} (hd : degB d = true) (hcl : cs.length ≤ 1048576) (hc : ∀ j, (cs.getD j []).length ≤ 1048576) {a : List (Int × Int)} (hal : a.length ≤ 1048576) (hT : isT p (2 ^ u) a = true) :
    ∃ rest : List Int, rest.length = 2 ^ u ∧ (spT rest = [] ↔ Mn p u cs d (dnT (2 ^ u) a)) ∧
    Ctr Try.prog 118 [.int .i64 p, .agg [.int .i64 u, .slice (cs.map D.ints)], .int .i64 d, D.tms a] true (.tup [.d (D.sp rest), .d (.bool true)]) [] := by
  have h64 := pow_le6 hu
  have hp1 : 1 < p ∧ p ≤ 5 := by omega
  have h2 := h1
  unfold askB at h2
  rw [zbc] at h2
  obtain ⟨R, M, many, hS, _, c3⟩ := span_ex hp hu h2.2 d
  have c1 := algebraOf_ok (p := p) hp1 hu h2.1 h2.2 (by omega) (fun j => by have := hc j; omega)
  have c2 := degreeOk_ok d
  rw [hd] at c2
  have c4 := is_ok hp1 hu (a := a) (by omega)
  rw [hT] at c4
  have c5 := Ctr.data1 (dense_ok hp1 hu (a := a) (by omega) hT)
  have hvv := Vec.dn (p := p) (by omega) (isT_tms hT)
  have c6 := reduceD_ok hp1 hu hS.toP hvv
  have hq := redQ_vec (p := p) (by omega) (M := M) (many := many) hS.ech.vec hvv R.length (Nat.le_refl _)
  have hr2 := redQ_red (p := p) (by omega) (M := M) (many := many) hS.ech.vec hvv R.length (Nat.le_refl _)
  rw [List.take_length] at hr2
  have hz : spT (redQ p R M (dnT (2 ^ u) a) many R.length).1 = [] ↔ Mn p u cs d (dnT (2 ^ u) a) := by
    rw [spT_nil, ldI_neg, ← vec_zero_iff (p := p) hq.1.1, hr2, red_iff (by omega) ldG hS.ech.vec hS.ech.tri hvv, hS.sp]
  refine ⟨_, hq.1.1, hz, ?_⟩
  have c7 := terms_ok (v := (redQ p R M (dnT (2 ^ u) a) many R.length).1) (by rw [hq.1.1]; exact h64)
  generalize (redQ p R M (dnT (2 ^ u) a) many R.length).2 = md at *
  generalize (redQ p R M (dnT (2 ^ u) a) many R.length).1 = rest at *
  generalize dnT (2 ^ u) a = v at *
  have c8 : Ctr Try.prog 142 [.int .i64 p, .agg [.int .i64 u, .slice (cs.map D.ints)], .int .i64 d] true (.tup [.d (.ptr (D.alg p u cs (cs.map (clauseD p u)))), .d (.ptr (D.ech p u R M many)), .d (.bool true)]) [] := by
    refine Ctr.of (n := 28) (rs := [.tmp 6, .tmp 7, .tmp 8]) Try.func142 rfl rfl Try.ntmps142 rfl rfl (by kernel_rfl) Try.checked.mixed ?_
    simp (disch := first | omega | decide +kernel) only [D.ints, go_sem, zqa, zqb, zqc, zqd, zqe, ↓reduceIte, reduceCtorEq, zqf, zqg, zqh]
    (repeat' (first | ((first | (refine gsel_split (fun q' => ?_) (fun q' => ?_) <;> (have h' := q') <;> (try simp only [decide_eq_true_eq, decide_eq_false_iff_not, zba, zbb, bne_iff_ne, ne_eq, beq_iff_eq, bne_eq_false_iff_eq, beq_eq_false_iff_ne, zia, zib, zic, zid, zda, zbc, zbd, zbe, gt_iff_lt, ge_iff_le] at h') <;> try (exfalso; omega)) | (have q' := trivial; first | refine callX_shared (c1) rfl (by decide) ?_ | refine callY_shared (c1) rfl ?_ | refine callX_new (c2) rfl (by decide) ?_ | refine callY_new (c2) rfl ?_ | refine callX_shared (c3) rfl (by decide) ?_ | refine callY_shared (c3) rfl ?_ | refine hE _ _ ret_ne ?_ | refine hE _ _ exit_ne ?_)) <;> (try simp (disch := first | omega | decide +kernel) only [q', D.ints, go_sem, zqa, zqb, zqc, zqd, zqe, ↓reduceIte, reduceCtorEq, zqf, zqg, zqh]) <;> clear q') | (refine hN _ ?_ ?_ Wk.kk) | (with_reducible refine And.intro ?_ ?_) | (with_reducible omega) | (exact ok_ints) | (exact cells_ints) | (exact no_mem) | (with_reducible exact plain_ints) | (refine le_maxLen ?_; omega) | (refine List.forall_mem_cons.2 ⟨?_, ?_⟩) | (simp only [go_sem, zqc, zqb, List.mem_cons, List.not_mem_nil, forall_eq]; done)))
    all_goals (first | omega | exact ret_t3 [] rfl rfl rfl)
  clear c1 c2 c3 hz hr2
  refine Ctr.of (n := 47) (rs := [.tmp 8, .tmp 9]) Try.func118 rfl rfl Try.ntmps118 rfl rfl (by kernel_rfl) Try.checked.mixed ?_
  simp (disch := first | omega | decide +kernel) only [D.ints, D.alg, go_sem, zqa, zqb, zqc, zqd, zqe, ↓reduceIte, reduceCtorEq, zqf, zqg, zqh]
  (repeat' (first | ((first | (refine gsel_split (fun q' => ?_) (fun q' => ?_) <;> (have h' := q') <;> (try simp only [decide_eq_true_eq, decide_eq_false_iff_not, zba, zbb, bne_iff_ne, ne_eq, beq_iff_eq, bne_eq_false_iff_eq, beq_eq_false_iff_ne, zia, zib, zic, zid, zda, zbc, zbd, zbe, gt_iff_lt, ge_iff_le] at h') <;> try (exfalso; omega)) | (have q' := trivial; first | refine callX_shared (c8) rfl (by decide) ?_ | refine callY_shared (c8) rfl ?_ | refine callX_new (c4) rfl (by decide) ?_ | refine callY_new (c4) rfl ?_ | refine callX_shared (c5) rfl (by decide) ?_ | refine callY_shared (c5) rfl ?_ | refine callX_shared (c6) rfl (by decide) ?_ | refine callY_shared (c6) rfl ?_ | refine callX_shared (c7) rfl (by decide) ?_ | refine callY_shared (c7) rfl ?_ | refine hE _ _ ret_ne ?_ | refine hE _ _ exit_ne ?_)) <;> (try simp (disch := first | omega | decide +kernel) only [q', D.ints, D.alg, go_sem, zqa, zqb, zqc, zqd, zqe, ↓reduceIte, reduceCtorEq, zqf, zqg, zqh]) <;> clear q') | (refine hN _ ?_ ?_ Wk.kk) | (with_reducible refine And.intro ?_ ?_) | (with_reducible omega) | (exact ok_ints) | (exact cells_ints) | (exact no_mem) | (with_reducible exact plain_ints) | (refine le_maxLen ?_; omega) | (refine List.forall_mem_cons.2 ⟨?_, ?_⟩) | (simp only [go_sem, zqc, zqb, List.mem_cons, List.not_mem_nil, forall_eq]; done)))
  all_goals (first | omega | exact ret_s2 [] rfl rfl)
end
end Abs.Y

namespace Abs.Y
open Go Go.Proofs Abs
open Nat renaming reduceEqDiff → zqa, reduceLT → zqb, reduceAdd → zqc, reduceMul → zqd, reduceSub → zqe, reduceLeDiff → zqf, reduceSubDiff → zqg, reduceBEq → zqh
open Bool renaming not_eq_true' → zba, not_eq_false' → zbb, and_eq_true → zbc, or_eq_true → zbd, or_eq_false_iff → zbe
open Int renaming ofNat_lt → zia, ofNat_le → zib, not_lt → zic, not_le → zid
open Decidable renaming not_not → zda
set_option maxRecDepth 100000

theorem inPcBad_ok (p v : Int) (cs : List (List Int)) (d : Int) (hb : (askB p v cs && degB d) = false) (hcl : cs.length ≤ 1048576) (hc : ∀ j, (cs.getD j []).length ≤ 1048576) (a : List (Int × Int)) :
    Ctr Try.prog 81 [.int .i64 p, .agg [.int .i64 v, .slice (cs.map D.ints)], .int .i64 d, D.tms a] false (.tup [.d (.bool false), .d (.bool false)]) [] := by
  have c1 := remBad_ok p v cs d hb hcl hc a
  refine Ctr.of (n := 27) (rs := [.tmp 8, .tmp 9]) Try.func81 rfl rfl Try.ntmps81 rfl rfl (by kernel_rfl) Try.checked.mixed ?_
  simp (disch := first | omega | decide +kernel) only [D.ints, go_sem, zqa, zqb, zqc, zqd, zqe, ↓reduceIte, reduceCtorEq, zqf, zqg, zqh]
  (repeat' (first | ((first | (refine gsel_split (fun q' => ?_) (fun q' => ?_) <;> (have h' := q') <;> (try simp only [decide_eq_true_eq, decide_eq_false_iff_not, zba, zbb, bne_iff_ne, ne_eq, beq_iff_eq, bne_eq_false_iff_eq, beq_eq_false_iff_ne, zia, zib, zic, zid, zda, zbc, zbd, zbe, gt_iff_lt, ge_iff_le] at h') <;> try (exfalso; omega)) | (have q' := trivial; first | refine callX_shared (c1) rfl (by decide) ?_ | refine callY_shared (c1) rfl ?_ | refine hE _ _ ret_ne ?_ | refine hE _ _ exit_ne ?_)) <;> (try simp (disch := first | omega | decide +kernel) only [q', D.ints, go_sem, zqa, zqb, zqc, zqd, zqe, ↓reduceIte, reduceCtorEq, zqf, zqg, zqh]) <;> clear q') | (refine hN _ ?_ ?_ Wk.kk) | (with_reducible refine And.intro ?_ ?_) | (with_reducible omega) | (exact ok_ints) | (exact cells_ints) | (exact no_mem) | (with_reducible exact plain_ints) | (refine le_maxLen ?_; omega) | (refine List.forall_mem_cons.2 ⟨?_, ?_⟩) | (simp only [go_sem, zqc, zqb, List.mem_cons, List.not_mem_nil, forall_eq]; done)))
  all_goals (first | omega)
theorem inPc_ok {p : Int} {u : Nat} (hp : p = 2 ∨ p = 3 ∨ p = 5) (hu : u ≤ 6) {cs : List (List Int)} (h1 : askB p u cs = true) {d : Int} (hd : degB d = true) (hcl : cs.length ≤ 1048576) (hc : ∀ j, (cs.getD j []).length ≤ 1048576) {a : List (Int × Int)} (hal : a.length ≤ 1048576) (hT : isT p (2 ^ u) a = true) {t : Bool} (ht : t = true ↔ Mn p u cs d (dnT (2 ^ u) a)) :
    Ctr Try.prog 81 [.int .i64 p, .agg [.int .i64 u, .slice (cs.map D.ints)], .int .i64 d, D.tms a] false (.tup [.d (.bool t), .d (.bool true)]) [] := by
  have h64 := pow_le6 hu
  obtain ⟨rest, hl, hz, c1⟩ := rem_ok hp hu h1 hd hcl hc hal hT
  rw [← ht] at hz
  have hll := Tms.len hl h64
  cases t with
  | true =>
    have hzl : (spT rest).length = 0 := by rw [hz.2 rfl]; rfl
    refine Ctr.of (n := 27) (rs := [.tmp 8, .tmp 9]) Try.func81 rfl rfl Try.ntmps81 rfl rfl (by kernel_rfl) Try.checked.mixed ?_
    simp (disch := first | omega | decide +kernel) only [D.ints, go_sem, zqa, zqb, zqc, zqd, zqe, ↓reduceIte, reduceCtorEq, zqf, zqg, zqh]
    (repeat' (first | ((first | (refine gsel_split (fun q' => ?_) (fun q' => ?_) <;> (have h' := q') <;> (try simp only [decide_eq_true_eq, decide_eq_false_iff_not, zba, zbb, bne_iff_ne, ne_eq, beq_iff_eq, bne_eq_false_iff_eq, beq_eq_false_iff_ne, zia, zib, zic, zid, zda, zbc, zbd, zbe, gt_iff_lt, ge_iff_le] at h') <;> try (exfalso; omega)) | (have q' := trivial; first | refine callX_shared (c1) rfl (by decide) ?_ | refine callY_shared (c1) rfl ?_ | refine hE _ _ ret_ne ?_ | refine hE _ _ exit_ne ?_)) <;> (try simp (disch := first | omega | decide +kernel) only [q', D.ints, hzl, go_sem, zqa, zqb, zqc, zqd, zqe, ↓reduceIte, reduceCtorEq, zqf, zqg, zqh]) <;> clear q') | (refine hN _ ?_ ?_ Wk.kk) | (with_reducible refine And.intro ?_ ?_) | (with_reducible omega) | (exact ok_ints) | (exact cells_ints) | (exact no_mem) | (with_reducible exact plain_ints) | (refine le_maxLen ?_; omega) | (refine List.forall_mem_cons.2 ⟨?_, ?_⟩) | (simp only [go_sem, zqc, zqb, List.mem_cons, List.not_mem_nil, forall_eq]; done)))
    all_goals (first | omega | rfl)
  | false =>
    have hzl : ¬ (spT rest).length = 0 := fun e => by cases hz.1 (List.eq_nil_of_length_eq_zero e)
    have hd2 : (((spT rest).length : Int) == 0) = false := by simpa using hzl
    refine Ctr.of (n := 27) (rs := [.tmp 8, .tmp 9]) Try.func81 rfl rfl Try.ntmps81 rfl rfl (by kernel_rfl) Try.checked.mixed ?_
    simp (disch := first | omega | decide +kernel) only [D.ints, hd2, go_sem, zqa, zqb, zqc, zqd, zqe, ↓reduceIte, reduceCtorEq, zqf, zqg, zqh]
    (repeat' (first | ((first | (refine gsel_split (fun q' => ?_) (fun q' => ?_) <;> (have h' := q') <;> (try simp only [decide_eq_true_eq, decide_eq_false_iff_not, zba, zbb, bne_iff_ne, ne_eq, beq_iff_eq, bne_eq_false_iff_eq, beq_eq_false_iff_ne, zia, zib, zic, zid, zda, zbc, zbd, zbe, gt_iff_lt, ge_iff_le] at h') <;> try (exfalso; omega)) | (have q' := trivial; first | refine callX_shared (c1) rfl (by decide) ?_ | refine callY_shared (c1) rfl ?_ | refine hE _ _ ret_ne ?_ | refine hE _ _ exit_ne ?_)) <;> (try simp (disch := first | omega | decide +kernel) only [q', D.ints, hd2, go_sem, zqa, zqb, zqc, zqd, zqe, ↓reduceIte, reduceCtorEq, zqf, zqg, zqh]) <;> clear q') | (refine hN _ ?_ ?_ Wk.kk) | (with_reducible refine And.intro ?_ ?_) | (with_reducible omega) | (exact ok_ints) | (exact cells_ints) | (exact no_mem) | (with_reducible exact plain_ints) | (refine le_maxLen ?_; omega) | (refine List.forall_mem_cons.2 ⟨?_, ?_⟩) | (simp only [go_sem, zqc, zqb, List.mem_cons, List.not_mem_nil, forall_eq]; done)))
    all_goals (first | omega)
theorem implHas_ok (p v : Int) (cs : List (List Int)) (d : Int) (hcl : cs.length ≤ 1048576) (hc : ∀ j, (cs.getD j []).length ≤ 1048576) {t : Bool} (ht : t = true ↔ ((primeB p v && okCnf v cs) && degB d) = true ∧ Mn p v.toNat cs d (monoD v.toNat 0)) :
    Ctr Try.prog 36 [.int .i64 p, .agg [.int .i64 v, .slice (cs.map D.ints)], .int .i64 d] false (.tup [.d (.bool t), .d (.bool ((primeB p v && okCnf v cs) && degB d))]) [] := by
  have hsl : D.tms [((0 : Int), (1 : Int))] = D.slice [.agg [.int .i64 0, .int .i64 1]] := rfl
  cases h1 : (primeB p v && okCnf v cs) && degB d with
  | false =>
    have h0 := bool_of ht (fun h => by rw [h1] at h; cases h.1)
    subst h0
    have c1 := inPcBad_ok p v cs d h1 hcl hc [(0, 1)]
    rw [hsl] at c1
    refine Ctr.of (n := 16) (rs := [.tmp 6, .tmp 7]) Try.func36 rfl rfl Try.ntmps36 rfl rfl (by kernel_rfl) Try.checked.mixed ?_
    simp (disch := first | omega | decide +kernel) only [D.ints, go_sem, zqa, zqb, zqc, zqd, zqe, ↓reduceIte, reduceCtorEq, zqf, zqg, zqh]
    (repeat' (first | ((first | (refine gsel_split (fun q' => ?_) (fun q' => ?_) <;> (have h' := q') <;> (try simp only [decide_eq_true_eq, decide_eq_false_iff_not, zba, zbb, bne_iff_ne, ne_eq, beq_iff_eq, bne_eq_false_iff_eq, beq_eq_false_iff_ne, zia, zib, zic, zid, zda, zbc, zbd, zbe, gt_iff_lt, ge_iff_le] at h') <;> try (exfalso; omega)) | (have q' := trivial; first | refine callX_new (c1) rfl (by decide) ?_ | refine callY_new (c1) rfl ?_ | refine hE _ _ ret_ne ?_ | refine hE _ _ exit_ne ?_)) <;> (try simp (disch := first | omega | decide +kernel) only [q', D.ints, go_sem, zqa, zqb, zqc, zqd, zqe, ↓reduceIte, reduceCtorEq, zqf, zqg, zqh]) <;> clear q') | (refine hN _ ?_ ?_ Wk.kk) | (with_reducible refine And.intro ?_ ?_) | (with_reducible omega) | (exact ok_ints) | (exact cells_ints) | (exact no_mem) | (with_reducible exact plain_ints) | (refine le_maxLen ?_; omega) | (refine List.forall_mem_cons.2 ⟨?_, ?_⟩) | (simp only [go_sem, zqc, zqb, List.mem_cons, List.not_mem_nil, forall_eq]; done)))
    all_goals (first | omega | (rw [ok_agg]; simp [D.atom]; done))
  | true =>
    have h2 := h1
    rw [zbc] at h2
    obtain ⟨h3, h4⟩ := h2
    have h5 := h3
    rw [zbc] at h5
    obtain ⟨hp, hv⟩ := primeB_235 h5.1
    obtain ⟨u, rfl⟩ : ∃ u : Nat, v = u := ⟨v.toNat, by omega⟩
    rw [Int.toNat_natCast] at ht
    have hu : u ≤ 6 := by omega
    have h1n : 0 < 2 ^ u := Nat.pow_pos (by decide)
    have h1z : (0 : Int) < (2 : Int) ^ u := Int.pow_pos (by decide)
    have hT : isT p (2 ^ u) [(0, 1)] = true := by
      refine isT_good fun j hj => ?_
      obtain rfl : j = 0 := by simpa using hj
      simp [okTm]; omega
    have c1 := inPc_ok hp hu h3 h4 hcl hc (a := [(0, 1)]) (by simp) hT (t := t) (by rw [ht]; exact ⟨fun h => h.2, fun h => ⟨h1, h⟩⟩)
    rw [hsl] at c1
    refine Ctr.of (n := 16) (rs := [.tmp 6, .tmp 7]) Try.func36 rfl rfl Try.ntmps36 rfl rfl (by kernel_rfl) Try.checked.mixed ?_
    simp (disch := first | omega | decide +kernel) only [D.ints, go_sem, zqa, zqb, zqc, zqd, zqe, ↓reduceIte, reduceCtorEq, zqf, zqg, zqh]
    (repeat' (first | ((first | (refine gsel_split (fun q' => ?_) (fun q' => ?_) <;> (have h' := q') <;> (try simp only [decide_eq_true_eq, decide_eq_false_iff_not, zba, zbb, bne_iff_ne, ne_eq, beq_iff_eq, bne_eq_false_iff_eq, beq_eq_false_iff_ne, zia, zib, zic, zid, zda, zbc, zbd, zbe, gt_iff_lt, ge_iff_le] at h') <;> try (exfalso; omega)) | (have q' := trivial; first | refine callX_new (c1) rfl (by decide) ?_ | refine callY_new (c1) rfl ?_ | refine hE _ _ ret_ne ?_ | refine hE _ _ exit_ne ?_)) <;> (try simp (disch := first | omega | decide +kernel) only [q', D.ints, go_sem, zqa, zqb, zqc, zqd, zqe, ↓reduceIte, reduceCtorEq, zqf, zqg, zqh]) <;> clear q') | (refine hN _ ?_ ?_ Wk.kk) | (with_reducible refine And.intro ?_ ?_) | (with_reducible omega) | (exact ok_ints) | (exact cells_ints) | (exact no_mem) | (with_reducible exact plain_ints) | (refine le_maxLen ?_; omega) | (refine List.forall_mem_cons.2 ⟨?_, ?_⟩) | (simp only [go_sem, zqc, zqb, List.mem_cons, List.not_mem_nil, forall_eq]; done)))
    all_goals (first | omega | (rw [ok_agg]; simp [D.atom]; done))
theorem implLeast_ok (p v : Int) (cs : List (List Int)) (hcl : cs.length ≤ 1048576) (hc : ∀ j, (cs.getD j []).length ≤ 1048576) {tt : Nat → Bool} (ht : ∀ d : Nat, tt d = true ↔ Mn p v.toNat cs d (monoD v.toNat 0)) :
    Ctr Try.prog 12 [.int .i64 p, .agg [.int .i64 v, .slice (cs.map D.ints)]] false (.tup [.d (.int .i64 (leastV (primeB p v && okCnf v cs) (idxR tt 7))), .d (.bool (leastB (primeB p v && okCnf v cs) (idxR tt 7)))]) [] := by
  have hdB : ∀ i : Nat, i < 7 → degB i = true := fun i hi => by simp [degB]; omega
  unfold leastV leastB
  refine Ctr.of (n := 25) (rs := [.tmp 4, .tmp 5]) Try.func12 rfl rfl Try.ntmps12 rfl rfl (by kernel_rfl) Try.checked.mixed ?_
  simp (disch := first | omega | decide +kernel) only [D.ints, go_sem, zqa, zqb, zqc, zqd, zqe, ↓reduceIte, reduceCtorEq, zqf, zqg, zqh]
  (repeat' (first | ((first | (refine gsel_split (fun q' => ?_) (fun q' => ?_) <;> (have h' := q') <;> (try simp only [decide_eq_true_eq, decide_eq_false_iff_not, zba, zbb, bne_iff_ne, ne_eq, beq_iff_eq, bne_eq_false_iff_eq, beq_eq_false_iff_ne, zia, zib, zic, zid, zda, zbc, zbd, zbe, gt_iff_lt, ge_iff_le] at h') <;> try (exfalso; omega)) | (have q' := trivial; first | refine hE _ _ ret_ne ?_ | refine hE _ _ exit_ne ?_)) <;> (try simp (disch := first | omega | decide +kernel) only [q', D.ints, go_sem, zqa, zqb, zqc, zqd, zqe, ↓reduceIte, reduceCtorEq, zqf, zqg, zqh]) <;> clear q') | (refine hN _ ?_ ?_ Wk.kk) | (with_reducible refine And.intro ?_ ?_) | (with_reducible omega) | (exact ok_ints) | (exact cells_ints) | (exact no_mem) | (with_reducible exact plain_ints) | (refine le_maxLen ?_; omega) | (refine List.forall_mem_cons.2 ⟨?_, ?_⟩) | (simp only [go_sem, zqc, zqb, List.mem_cons, List.not_mem_nil, forall_eq]; done)))
  all_goals (first | omega | skip)
  refine Ok.loopC [24, 23, 22, 21, 20, 19, 18, 17, 16, 15, 14, 13, 12, 11, 10, 9, 8, 7, 6, 5, 4, 2, 1] (fun i => [(6, .d (.int .i64 (i : Nat)))]) 7 (fun i => ∀ j, j < i → ((primeB p v && okCnf v cs) && tt j) = false) (by simp) (by refine Wk.auto ?_ ?_ <;> simp [extraK, lk, killL, St.kill, wipeO, wipeS, AV.has, AV.hasL, AO.wipe, List.map_set, updSt, insL, dropS, ins, D.ints]) ?_
  intro R i hN hE hi hI
  by_cases hlt : i < 7
  · have c1 := implHas_ok p v cs i hcl hc (t := (primeB p v && okCnf v cs) && tt i) (by rw [zbc, ht i, hdB i hlt, Bool.and_true])
    rw [hdB i hlt, Bool.and_true] at c1
    cases h1 : primeB p v && okCnf v cs with
    | false =>
      rw [h1, Bool.false_and] at c1
      have hI2 : ∀ j, j < i + 1 → ((primeB p v && okCnf v cs) && tt j) = false := fun j _ => by rw [h1]; rfl
      rw [h1] at hI2 hN
      simp (disch := first | omega | decide +kernel) only [D.ints, go_sem, zqa, zqb, zqc, zqd, zqe, ↓reduceIte, reduceCtorEq, zqf, zqg, zqh]
      (repeat' (first | ((first | (refine gsel_split (fun q' => ?_) (fun q' => ?_) <;> (have h' := q') <;> (try simp only [decide_eq_true_eq, decide_eq_false_iff_not, zba, zbb, bne_iff_ne, ne_eq, beq_iff_eq, bne_eq_false_iff_eq, beq_eq_false_iff_ne, zia, zib, zic, zid, zda, zbc, zbd, zbe, gt_iff_lt, ge_iff_le] at h') <;> try (exfalso; omega)) | (have q' := trivial; first | refine callX_new (c1) rfl (by decide) ?_ | refine callY_new (c1) rfl ?_ | refine hE _ _ ret_ne ?_ | refine hE _ _ exit_ne ?_)) <;> (try simp (disch := first | omega | decide +kernel) only [q', D.ints, go_sem, zqa, zqb, zqc, zqd, zqe, ↓reduceIte, reduceCtorEq, zqf, zqg, zqh]) <;> clear q') | (refine hN _ ?_ ?_ Wk.kk) | (with_reducible refine And.intro ?_ ?_) | (with_reducible omega) | (exact ok_ints) | (exact cells_ints) | (exact no_mem) | (with_reducible exact plain_ints) | (refine le_maxLen ?_; omega) | (refine List.forall_mem_cons.2 ⟨?_, ?_⟩) | (simp only [go_sem, zqc, zqb, List.mem_cons, List.not_mem_nil, forall_eq]; done)))
      all_goals (first | omega | exact hI2)
    | true =>
      rw [h1, Bool.true_and] at c1
      rw [h1] at hI hE hN
      simp only [Bool.true_and] at hI hE hN
      cases hti : tt i with
      | true =>
        rw [hti] at c1
        have e : idxR tt 7 = i := idxR_some hlt hti hI
        rw [e] at hE
        simp (disch := first | omega | decide +kernel) only [D.ints, go_sem, zqa, zqb, zqc, zqd, zqe, ↓reduceIte, reduceCtorEq, zqf, zqg, zqh]
        (repeat' (first | ((first | (refine gsel_split (fun q' => ?_) (fun q' => ?_) <;> (have h' := q') <;> (try simp only [decide_eq_true_eq, decide_eq_false_iff_not, zba, zbb, bne_iff_ne, ne_eq, beq_iff_eq, bne_eq_false_iff_eq, beq_eq_false_iff_ne, zia, zib, zic, zid, zda, zbc, zbd, zbe, gt_iff_lt, ge_iff_le] at h') <;> try (exfalso; omega)) | (have q' := trivial; first | refine callX_new (c1) rfl (by decide) ?_ | refine callY_new (c1) rfl ?_ | refine hE _ _ ret_ne ?_ | refine hE _ _ exit_ne ?_)) <;> (try simp (disch := first | omega | decide +kernel) only [q', D.ints, go_sem, zqa, zqb, zqc, zqd, zqe, ↓reduceIte, reduceCtorEq, zqf, zqg, zqh]) <;> clear q') | (refine hN _ ?_ ?_ Wk.kk) | (with_reducible refine And.intro ?_ ?_) | (with_reducible omega) | (exact ok_ints) | (exact cells_ints) | (exact no_mem) | (with_reducible exact plain_ints) | (refine le_maxLen ?_; omega) | (refine List.forall_mem_cons.2 ⟨?_, ?_⟩) | (simp only [go_sem, zqc, zqb, List.mem_cons, List.not_mem_nil, forall_eq]; done)))
        all_goals (first | omega | rfl | (simp; done))
      | false =>
        rw [hti] at c1
        simp (disch := first | omega | decide +kernel) only [D.ints, go_sem, zqa, zqb, zqc, zqd, zqe, ↓reduceIte, reduceCtorEq, zqf, zqg, zqh]
        (repeat' (first | ((first | (refine gsel_split (fun q' => ?_) (fun q' => ?_) <;> (have h' := q') <;> (try simp only [decide_eq_true_eq, decide_eq_false_iff_not, zba, zbb, bne_iff_ne, ne_eq, beq_iff_eq, bne_eq_false_iff_eq, beq_eq_false_iff_ne, zia, zib, zic, zid, zda, zbc, zbd, zbe, gt_iff_lt, ge_iff_le] at h') <;> try (exfalso; omega)) | (have q' := trivial; first | refine callX_new (c1) rfl (by decide) ?_ | refine callY_new (c1) rfl ?_ | refine hE _ _ ret_ne ?_ | refine hE _ _ exit_ne ?_)) <;> (try simp (disch := first | omega | decide +kernel) only [q', D.ints, go_sem, zqa, zqb, zqc, zqd, zqe, ↓reduceIte, reduceCtorEq, zqf, zqg, zqh]) <;> clear q') | (refine hN _ ?_ ?_ Wk.kk) | (with_reducible refine And.intro ?_ ?_) | (with_reducible omega) | (exact ok_ints) | (exact cells_ints) | (exact no_mem) | (with_reducible exact plain_ints) | (refine le_maxLen ?_; omega) | (refine List.forall_mem_cons.2 ⟨?_, ?_⟩) | (simp only [go_sem, zqc, zqb, List.mem_cons, List.not_mem_nil, forall_eq]; done)))
        all_goals (first | omega | (exact all_succ hI hti))
  · have hdd : ((primeB p v && okCnf v cs) && decide (0 ≤ idxR tt 7)) = false := by
      cases h1 : primeB p v && okCnf v cs with
      | false => rfl
      | true =>
        rw [h1] at hI
        simp only [Bool.true_and] at hI
        rw [idxR_none fun j hj => hI j (by omega)]; rfl
    rw [hdd] at hE
    simp (disch := first | omega | decide +kernel) only [D.ints, go_sem, zqa, zqb, zqc, zqd, zqe, ↓reduceIte, reduceCtorEq, zqf, zqg, zqh]
    (repeat' (first | ((first | (refine gsel_split (fun q' => ?_) (fun q' => ?_) <;> (have h' := q') <;> (try simp only [decide_eq_true_eq, decide_eq_false_iff_not, zba, zbb, bne_iff_ne, ne_eq, beq_iff_eq, bne_eq_false_iff_eq, beq_eq_false_iff_ne, zia, zib, zic, zid, zda, zbc, zbd, zbe, gt_iff_lt, ge_iff_le] at h') <;> try (exfalso; omega)) | (have q' := trivial; first | refine hE _ _ ret_ne ?_ | refine hE _ _ exit_ne ?_)) <;> (try simp (disch := first | omega | decide +kernel) only [q', D.ints, go_sem, zqa, zqb, zqc, zqd, zqe, ↓reduceIte, reduceCtorEq, zqf, zqg, zqh]) <;> clear q') | (refine hN _ ?_ ?_ Wk.kk) | (with_reducible refine And.intro ?_ ?_) | (with_reducible omega) | (exact ok_ints) | (exact cells_ints) | (exact no_mem) | (with_reducible exact plain_ints) | (refine le_maxLen ?_; omega) | (refine List.forall_mem_cons.2 ⟨?_, ?_⟩) | (simp only [go_sem, zqc, zqb, List.mem_cons, List.not_mem_nil, forall_eq]; done)))
    all_goals (first | omega | rfl | (simp; done))
end Abs.Y
