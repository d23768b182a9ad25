/- What functions of this program compute, as contracts over plain data, with what the proofs need of them. No condition. -/
import Derived.Test.YtoppjihdipidiaaAbsShelf
import Derived.Test.YtoppjihdipidiaaH6
import Derived.Test.YtoppjihdipidiaaV18
import Derived.Test.YtoppjihdipidiaaV15
import Derived.Test.YtoppjihdipidiaaK0
import Derived.Test.YtoppjihdipidiaaV2
import Derived.Test.YtoppjihdipidiaaC4
set_option linter.all false
namespace Abs
open Go Go.Proofs
theorem Ctr.data2 {P : Program} {f : FuncId} {xs : List D} {sh : Bool} {e1 e2 : TypeId} {k1 k2 : Nat} {x1 x2 : List D} (h : Ctr P f xs sh (.tup [.sl 0, .sl 1]) [(0, .arr e1 k1 x1), (1, .arr e2 k2 x2)]) : Ctr P f xs true (.d (.tup [.slice x1, .slice x2])) [] := by
  refine ⟨h.1, fun S w vs hl hr => (h.2 S w vs hl hr).mono fun en w' ⟨v, he, hf, β, φ, hrel, hobj, hown, hdis⟩ => ⟨v, he, hf, β, φ, ?_, by simp [lk], by simp [lk], by simp [lk]⟩⟩
  have d1 := rd_of_arr (S' := free (fun g => w.heap.size ≤ g ∨ (true = true ∧ S g)) φ []) (hobj 0 (.arr e1 k1 x1) (by simp [lk])) (fun g hg _ => ⟨hg.1.imp id fun h => ⟨rfl, h.2⟩, by simp [lk]⟩) fun g hg => ⟨.inl (hown 0 (.arr e1 k1 x1) g (by simp [lk]) hg), by simp [lk]⟩
  have d2 := rd_of_arr (S' := free (fun g => w.heap.size ≤ g ∨ (true = true ∧ S g)) φ []) (hobj 1 (.arr e2 k2 x2) (by simp [lk])) (fun g hg _ => ⟨hg.1.imp id fun h => ⟨rfl, h.2⟩, by simp [lk]⟩) fun g hg => ⟨.inl (hown 1 (.arr e2 k2 x2) g (by simp [lk]) hg), by simp [lk]⟩
  cases hrel with
  | tup hl2 hrl =>
    refine .d (.tup (by simpa using hl2) fun i hi => ?_)
    match i, hi with
    | 0, _ =>
      have := hrl 0 (by simp)
      simp only [List.getD_cons_zero] at this ⊢
      generalize hq : List.getD _ 0 Go.undef = q at *
      cases this with
      | sl => simpa using d1
    | 1, _ =>
      have := hrl 1 (by simp)
      simp only [List.getD_cons_succ, List.getD_cons_zero] at this ⊢
      generalize hq : List.getD _ 1 Go.undef = q at *
      cases this with
      | sl => simpa using d2
end Abs
namespace Abs.Y
open Go Go.Proofs Abs
open Nat renaming reduceEqDiff → zqa, reduceLT → zqb, reduceAdd → zqc, reduceMul → zqd, reduceSub → zqe, reduceLeDiff → zqf, reduceSubDiff → zqg, reduceBEq → zqh
open Bool renaming not_eq_true' → zba, not_eq_false' → zbb, and_eq_true → zbc, or_eq_true → zbd, or_eq_false_iff → zbe
open Int renaming ofNat_lt → zia, ofNat_le → zib, not_lt → zic, not_le → zid
open Decidable renaming not_not → zda
set_option maxRecDepth 100000

def okIn (p v : Int) (cs : List (List Int)) (d : Int) (a : List (Int × Int)) : Bool := ((primeB p v && okCnf v cs) && degB d) && isT p (2 ^ v.toNat) a
def InP (p v : Int) (cs : List (List Int)) (d : Int) (a : List (Int × Int)) : Prop := Sp p (2 ^ v.toNat) (prodsP p v.toNat (gradN (2 ^ v.toNat)) cs d) (dnT (2 ^ v.toNat) a)
theorem l19Degree_ok (d : Int) : Ctr Try.prog 115 [.int .i64 d] false (.d (.bool (degB d))) [] := by
  have c1 := l1In_ok d 0 6
  unfold degB
  refine Ctr.of (n := 5) (rs := [.tmp 2]) Try.func115 rfl rfl Try.ntmps115 rfl rfl (by kernel_rfl) Try.checked.mixed ?_
  simp (disch := first | omega | decide +kernel) only [go_sem, zqa, zqb, zqc, zqd, zqe, ↓reduceIte, reduceCtorEq, zqf, zqg, zqh]
  (repeat' (first | ((first | (refine gsel_split (fun q' => ?_) (fun q' => ?_) <;> (have h' := q') <;> (try simp only [decide_eq_true_eq, decide_eq_false_iff_not, zba, zbb, bne_iff_ne, ne_eq, beq_iff_eq, bne_eq_false_iff_eq, beq_eq_false_iff_ne, zia, zib, zic, zid, zda, zbc, zbd, zbe, gt_iff_lt, ge_iff_le] at h') <;> try (exfalso; omega)) | (have q' := trivial; first | refine callX_new (c1) rfl (by decide) ?_ | refine callY_new (c1) rfl ?_ | refine hE _ _ ret_ne ?_ | refine hE _ _ exit_ne ?_)) <;> (try simp (disch := first | omega | decide +kernel) only [q', go_sem, zqa, zqb, zqc, zqd, zqe, ↓reduceIte, reduceCtorEq, zqf, zqg, zqh]) <;> clear q') | (refine hN _ ?_ ?_ Wk.kk) | (with_reducible refine And.intro ?_ ?_) | (with_reducible omega) | (exact ok_ints) | (exact cells_ints) | (exact no_mem) | (with_reducible exact plain_ints) | (refine le_maxLen ?_; omega) | (refine List.forall_mem_cons.2 ⟨?_, ?_⟩) | (simp only [go_sem, zqc, zqb, List.mem_cons, List.not_mem_nil, forall_eq]; done)))
  all_goals (first | omega)
theorem bool_comm2 {a b : Bool} : (a && b) = (b && a) := by cases a <;> cases b <;> rfl
theorem specIn_ok (p v : Int) (cs : List (List Int)) (d : Int) (a : List (Int × Int)) (hcl : cs.length ≤ 1048576) (hc : ∀ j, (cs.getD j []).length ≤ 1048576) (hal : a.length ≤ 1048576) {t : Bool} (ht : t = true ↔ (okIn p v cs d a = true ∧ InP p v cs d a)) :
    Ctr Try.prog 48 [.int .i64 p, .agg [.int .i64 v, .slice (cs.map D.ints)], .int .i64 d, D.tms a] false (.tup [.d (.bool t), .d (.bool (okIn p v cs d a))]) [] := by
  have c1 := l19Takes_ok p v cs (by omega) (fun j => by have := hc j; omega)
  rw [bool_comm2] at c1
  have c2 := l19Degree_ok d
  have hf : okIn p v cs d a = false → t = false := fun h => bool_of ht fun h' => by rw [h] at h'; cases h'.1
  cases h1 : primeB p v && okCnf v cs with
  | false =>
    have e : okIn p v cs d a = false := by unfold okIn; rw [h1]; rfl
    rw [h1] at c1
    rw [e, hf e]
    refine Ctr.of (n := 45) (rs := [.tmp 8, .tmp 9]) Try.func48 rfl rfl Try.ntmps48 rfl rfl (by kernel_rfl) Try.checked.mixed ?_
    simp (disch := first | omega | decide +kernel) only [go_sem, zqa, zqb, zqc, zqd, zqe, ↓reduceIte, reduceCtorEq, zqf, zqg, zqh]
    (repeat' (first | ((first | (refine gsel_split (fun q' => ?_) (fun q' => ?_) <;> (have h' := q') <;> (try simp only [decide_eq_true_eq, decide_eq_false_iff_not, zba, zbb, bne_iff_ne, ne_eq, beq_iff_eq, bne_eq_false_iff_eq, beq_eq_false_iff_ne, zia, zib, zic, zid, zda, zbc, zbd, zbe, gt_iff_lt, ge_iff_le] at h') <;> try (exfalso; omega)) | (have q' := trivial; first | refine callX_new (c1) rfl (by decide) ?_ | refine callY_new (c1) rfl ?_ | refine hE _ _ ret_ne ?_ | refine hE _ _ exit_ne ?_)) <;> (try simp (disch := first | omega | decide +kernel) only [q', go_sem, zqa, zqb, zqc, zqd, zqe, ↓reduceIte, reduceCtorEq, zqf, zqg, zqh]) <;> clear q') | (refine hN _ ?_ ?_ Wk.kk) | (with_reducible refine And.intro ?_ ?_) | (with_reducible omega) | (exact ok_ints) | (exact cells_ints) | (exact no_mem) | (with_reducible exact plain_ints) | (refine le_maxLen ?_; omega) | (refine List.forall_mem_cons.2 ⟨?_, ?_⟩) | (simp only [go_sem, zqc, zqb, List.mem_cons, List.not_mem_nil, forall_eq]; done)))
    all_goals (first | omega)
  | true =>
    rw [h1] at c1
    have hpo := h1
    rw [zbc] at hpo
    obtain ⟨hp, hv⟩ := primeB_235 hpo.1
    obtain ⟨u, rfl⟩ : ∃ u : Nat, v = u := ⟨v.toNat, by omega⟩
    have hu : u ≤ 6 := by omega
    have h64 := pow_le6 hu
    have hp1 : 1 < p ∧ p ≤ 5 := by omega
    cases h2 : degB d with
    | false =>
      have e : okIn p u cs d a = false := by unfold okIn; rw [h1, h2]; rfl
      rw [h2] at c2
      rw [e, hf e]
      refine Ctr.of (n := 45) (rs := [.tmp 8, .tmp 9]) Try.func48 rfl rfl Try.ntmps48 rfl rfl (by kernel_rfl) Try.checked.mixed ?_
      simp (disch := first | omega | decide +kernel) only [go_sem, zqa, zqb, zqc, zqd, zqe, ↓reduceIte, reduceCtorEq, zqf, zqg, zqh]
      (repeat' (first | ((first | (refine gsel_split (fun q' => ?_) (fun q' => ?_) <;> (have h' := q') <;> (try simp only [decide_eq_true_eq, decide_eq_false_iff_not, zba, zbb, bne_iff_ne, ne_eq, beq_iff_eq, bne_eq_false_iff_eq, beq_eq_false_iff_ne, zia, zib, zic, zid, zda, zbc, zbd, zbe, gt_iff_lt, ge_iff_le] at h') <;> try (exfalso; omega)) | (have q' := trivial; first | refine callX_new (c1) rfl (by decide) ?_ | refine callY_new (c1) rfl ?_ | refine callX_new (c2) rfl (by decide) ?_ | refine callY_new (c2) rfl ?_ | refine hE _ _ ret_ne ?_ | refine hE _ _ exit_ne ?_)) <;> (try simp (disch := first | omega | decide +kernel) only [q', go_sem, zqa, zqb, zqc, zqd, zqe, ↓reduceIte, reduceCtorEq, zqf, zqg, zqh]) <;> clear q') | (refine hN _ ?_ ?_ Wk.kk) | (with_reducible refine And.intro ?_ ?_) | (with_reducible omega) | (exact ok_ints) | (exact cells_ints) | (exact no_mem) | (with_reducible exact plain_ints) | (refine le_maxLen ?_; omega) | (refine List.forall_mem_cons.2 ⟨?_, ?_⟩) | (simp only [go_sem, zqc, zqb, List.mem_cons, List.not_mem_nil, forall_eq]; done)))
      all_goals (first | omega)
    | true =>
      rw [h2] at c2
      have hd : 0 ≤ d ∧ d ≤ 6 := by simpa [degB] using h2
      have c3 := l18Good_ok hp1 hu (a := a) (by omega) hpo.1
      cases h3 : isT p (2 ^ u) a with
      | false =>
        have e : okIn p u cs d a = false := by unfold okIn; rw [h1, h2, Int.toNat_natCast, h3]; rfl
        rw [h3] at c3
        rw [e, hf e]
        refine Ctr.of (n := 45) (rs := [.tmp 8, .tmp 9]) Try.func48 rfl rfl Try.ntmps48 rfl rfl (by kernel_rfl) Try.checked.mixed ?_
        simp (disch := first | omega | decide +kernel) only [go_sem, zqa, zqb, zqc, zqd, zqe, ↓reduceIte, reduceCtorEq, zqf, zqg, zqh]
        (repeat' (first | ((first | (refine gsel_split (fun q' => ?_) (fun q' => ?_) <;> (have h' := q') <;> (try simp only [decide_eq_true_eq, decide_eq_false_iff_not, zba, zbb, bne_iff_ne, ne_eq, beq_iff_eq, bne_eq_false_iff_eq, beq_eq_false_iff_ne, zia, zib, zic, zid, zda, zbc, zbd, zbe, gt_iff_lt, ge_iff_le] at h') <;> try (exfalso; omega)) | (have q' := trivial; first | refine callX_new (c1) rfl (by decide) ?_ | refine callY_new (c1) rfl ?_ | refine callX_new (c2) rfl (by decide) ?_ | refine callY_new (c2) rfl ?_ | refine callX_new (c3) rfl (by decide) ?_ | refine callY_new (c3) rfl ?_ | refine hE _ _ ret_ne ?_ | refine hE _ _ exit_ne ?_)) <;> (try simp (disch := first | omega | decide +kernel) only [q', go_sem, zqa, zqb, zqc, zqd, zqe, ↓reduceIte, reduceCtorEq, zqf, zqg, zqh]) <;> clear q') | (refine hN _ ?_ ?_ Wk.kk) | (with_reducible refine And.intro ?_ ?_) | (with_reducible omega) | (exact ok_ints) | (exact cells_ints) | (exact no_mem) | (with_reducible exact plain_ints) | (refine le_maxLen ?_; omega) | (refine List.forall_mem_cons.2 ⟨?_, ?_⟩) | (simp only [go_sem, zqc, zqb, List.mem_cons, List.not_mem_nil, forall_eq]; done)))
        all_goals (first | omega)
      | true =>
        have e : okIn p u cs d a = true := by unfold okIn; rw [h1, h2, Int.toNat_natCast, h3]; rfl
        rw [h3] at c3
        rw [e]
        unfold InP at ht
        rw [Int.toNat_natCast, e] at ht
        simp only [true_and] at ht
        have c4 := l19Span_ok hp hu hpo.2 hcl hc hd.2
        obtain ⟨g1, g2, g3⟩ := spanP_ok hp (u := u) cs d
        rw [← g3] at ht
        have c5 := Ctr.data1 (l18Dense_ok hp1 hu (a := a) (by omega) (isT_tms h3))
        have hvv := Vec.dn (p := p) (by omega) (isT_tms h3)
        have c6 := Ctr.data2 (l19Reduce_ok hp1 hu (K := (spanP p u cs d).2) g1 g2 hvv)
        obtain ⟨f1, _, _, f4⟩ := leftF_facts hp g1 hvv
        rw [g2] at c6
        have e1 : (redFQ p (spanP p u cs d).1.R (spanP p u cs d).1.M (dnT (2 ^ u) a) (spanP p u cs d).1.R.length (spanP p u cs d).1.R.length).1 = leftF p (spanP p u cs d).1 (dnT (2 ^ u) a) := rfl
        rw [e1] at c6
        generalize (redFQ p (spanP p u cs d).1.R (spanP p u cs d).1.M (dnT (2 ^ u) a) (spanP p u cs d).1.R.length (spanP p u cs d).1.R.length).2 = md at *
        generalize leftF p (spanP p u cs d).1 (dnT (2 ^ u) a) = lf at *
        rw [← f4] at ht
        generalize (spanP p u cs d).1.R = R at *
        generalize (spanP p u cs d).1.M = M at *
        generalize (spanP p u cs d).2 = K at *
        have hll := f1.1
        have c7 := l19Lead_ok (v := lf) (by omega)
        generalize ldFI lf = z at *
        generalize dnT (2 ^ u) a = V at *
        clear f1 f4 g1 g3 hvv
        have hz : decide (z < 0) = t := by
          cases t with
          | true => exact decide_eq_true (ht.1 rfl)
          | false => exact decide_eq_false fun h => by cases ht.2 h
        clear ht hf
        refine Ctr.of (n := 45) (rs := [.tmp 8, .tmp 9]) Try.func48 rfl rfl Try.ntmps48 rfl rfl (by kernel_rfl) Try.checked.mixed ?_
        simp (disch := first | omega | decide +kernel) only [D.ints, go_sem, zqa, zqb, zqc, zqd, zqe, ↓reduceIte, reduceCtorEq, zqf, zqg, zqh]
        (repeat' (first | ((first | (refine gsel_split (fun q' => ?_) (fun q' => ?_) <;> (have h' := q') <;> (try simp only [decide_eq_true_eq, decide_eq_false_iff_not, zba, zbb, bne_iff_ne, ne_eq, beq_iff_eq, bne_eq_false_iff_eq, beq_eq_false_iff_ne, zia, zib, zic, zid, zda, zbc, zbd, zbe, gt_iff_lt, ge_iff_le] at h') <;> try (exfalso; omega)) | (have q' := trivial; first | refine callX_new (c1) rfl (by decide) ?_ | refine callY_new (c1) rfl ?_ | refine callX_new (c2) rfl (by decide) ?_ | refine callY_new (c2) rfl ?_ | refine callX_new (c3) rfl (by decide) ?_ | refine callY_new (c3) rfl ?_ | refine callX_shared (c4) rfl (by decide) ?_ | refine callY_shared (c4) rfl ?_ | refine callX_shared (c5) rfl (by decide) ?_ | refine callY_shared (c5) rfl ?_ | refine callX_shared (c6) rfl (by decide) ?_ | refine callY_shared (c6) rfl ?_ | refine callX_new (c7) rfl (by decide) ?_ | refine callY_new (c7) rfl ?_ | refine hE _ _ ret_ne ?_ | refine hE _ _ exit_ne ?_)) <;> (try simp (disch := first | omega | decide +kernel) only [q', D.ints, hz, go_sem, zqa, zqb, zqc, zqd, zqe, ↓reduceIte, reduceCtorEq, zqf, zqg, zqh]) <;> clear q') | (refine hN _ ?_ ?_ Wk.kk) | (with_reducible refine And.intro ?_ ?_) | (with_reducible omega) | (exact ok_ints) | (exact cells_ints) | (exact no_mem) | (with_reducible exact plain_ints) | (refine le_maxLen ?_; omega) | (refine List.forall_mem_cons.2 ⟨?_, ?_⟩) | (simp only [go_sem, zqc, zqb, List.mem_cons, List.not_mem_nil, forall_eq]; done)))
        all_goals (first | omega)
theorem implIn_ok (p v : Int) (cs : List (List Int)) (d : Int) (a : List (Int × Int)) (hcl : cs.length ≤ 1048576) (hc : ∀ j, (cs.getD j []).length ≤ 1048576) (hal : a.length ≤ 1048576) {t : Bool} (ht : t = true ↔ (okIn p v cs d a = true ∧ InP p v cs d a)) :
    Ctr Try.prog 50 [.int .i64 p, .agg [.int .i64 v, .slice (cs.map D.ints)], .int .i64 d, D.tms a] false (.tup [.d (.bool t), .d (.bool (okIn p v cs d a))]) [] := by
  have c2 := degreeOk_ok d
  have hf : okIn p v cs d a = false → t = false := fun h => bool_of ht fun h' => by rw [h] at h'; cases h'.1
  cases h1 : primeB p v && okCnf v cs with
  | false =>
    have e : okIn p v cs d a = false := by unfold okIn; rw [h1]; rfl
    have c1 := algebraBad_ok p v cs h1 (by omega) (fun j => by have := hc j; omega)
    rw [e, hf e]
    refine Ctr.of (n := 57) (rs := [.tmp 8, .tmp 9]) Try.func50 rfl rfl Try.ntmps50 rfl rfl (by kernel_rfl) Try.checked.mixed ?_
    simp (disch := first | omega | decide +kernel) only [go_sem, zqa, zqb, zqc, zqd, zqe, ↓reduceIte, reduceCtorEq, zqf, zqg, zqh]
    (repeat' (first | ((first | (refine gsel_split (fun q' => ?_) (fun q' => ?_) <;> (have h' := q') <;> (try simp only [decide_eq_true_eq, decide_eq_false_iff_not, zba, zbb, bne_iff_ne, ne_eq, beq_iff_eq, bne_eq_false_iff_eq, beq_eq_false_iff_ne, zia, zib, zic, zid, zda, zbc, zbd, zbe, gt_iff_lt, ge_iff_le] at h') <;> try (exfalso; omega)) | (have q' := trivial; first | refine callX_shared (c1) rfl (by decide) ?_ | refine callY_shared (c1) rfl ?_ | refine hE _ _ ret_ne ?_ | refine hE _ _ exit_ne ?_)) <;> (try simp (disch := first | omega | decide +kernel) only [q', go_sem, zqa, zqb, zqc, zqd, zqe, ↓reduceIte, reduceCtorEq, zqf, zqg, zqh]) <;> clear q') | (refine hN _ ?_ ?_ Wk.kk) | (with_reducible refine And.intro ?_ ?_) | (with_reducible omega) | (exact ok_ints) | (exact cells_ints) | (exact no_mem) | (with_reducible exact plain_ints) | (refine le_maxLen ?_; omega) | (refine List.forall_mem_cons.2 ⟨?_, ?_⟩) | (simp only [go_sem, zqc, zqb, List.mem_cons, List.not_mem_nil, forall_eq]; done)))
    all_goals (first | omega)
  | true =>
    have hpo := h1
    rw [zbc] at hpo
    obtain ⟨hp, hv⟩ := primeB_235 hpo.1
    obtain ⟨u, rfl⟩ : ∃ u : Nat, v = u := ⟨v.toNat, by omega⟩
    have hu : u ≤ 6 := by omega
    have h64 := pow_le6 hu
    have hp1 : 1 < p ∧ p ≤ 5 := by omega
    have c1 := algebraOf_ok (p := p) hp1 hu hpo.1 hpo.2 (by omega) (fun j => by have := hc j; omega)
    cases h2 : degB d with
    | false =>
      have e : okIn p u cs d a = false := by unfold okIn; rw [h1, h2]; rfl
      rw [h2] at c2
      rw [e, hf e]
      refine Ctr.of (n := 57) (rs := [.tmp 8, .tmp 9]) Try.func50 rfl rfl Try.ntmps50 rfl rfl (by kernel_rfl) Try.checked.mixed ?_
      simp (disch := first | omega | decide +kernel) only [go_sem, zqa, zqb, zqc, zqd, zqe, ↓reduceIte, reduceCtorEq, zqf, zqg, zqh]
      (repeat' (first | ((first | (refine gsel_split (fun q' => ?_) (fun q' => ?_) <;> (have h' := q') <;> (try simp only [decide_eq_true_eq, decide_eq_false_iff_not, zba, zbb, bne_iff_ne, ne_eq, beq_iff_eq, bne_eq_false_iff_eq, beq_eq_false_iff_ne, zia, zib, zic, zid, zda, zbc, zbd, zbe, gt_iff_lt, ge_iff_le] at h') <;> try (exfalso; omega)) | (have q' := trivial; first | refine callX_shared (c1) rfl (by decide) ?_ | refine callY_shared (c1) rfl ?_ | refine callX_new (c2) rfl (by decide) ?_ | refine callY_new (c2) rfl ?_ | refine hE _ _ ret_ne ?_ | refine hE _ _ exit_ne ?_)) <;> (try simp (disch := first | omega | decide +kernel) only [q', go_sem, zqa, zqb, zqc, zqd, zqe, ↓reduceIte, reduceCtorEq, zqf, zqg, zqh]) <;> clear q') | (refine hN _ ?_ ?_ Wk.kk) | (with_reducible refine And.intro ?_ ?_) | (with_reducible omega) | (exact ok_ints) | (exact cells_ints) | (exact no_mem) | (with_reducible exact plain_ints) | (refine le_maxLen ?_; omega) | (refine List.forall_mem_cons.2 ⟨?_, ?_⟩) | (simp only [go_sem, zqc, zqb, List.mem_cons, List.not_mem_nil, forall_eq]; done)))
      all_goals (first | omega)
    | true =>
      rw [h2] at c2
      have hd : 0 ≤ d ∧ d ≤ 6 := by simpa [degB] using h2
      have c3 := is_ok hp1 hu (a := a) (by omega)
      cases h3 : isT p (2 ^ u) a with
      | false =>
        have e : okIn p u cs d a = false := by unfold okIn; rw [h1, h2, Int.toNat_natCast, h3]; rfl
        rw [h3] at c3
        rw [e, hf e]
        refine Ctr.of (n := 57) (rs := [.tmp 8, .tmp 9]) Try.func50 rfl rfl Try.ntmps50 rfl rfl (by kernel_rfl) Try.checked.mixed ?_
        simp (disch := first | omega | decide +kernel) only [D.alg, go_sem, zqa, zqb, zqc, zqd, zqe, ↓reduceIte, reduceCtorEq, zqf, zqg, zqh]
        (repeat' (first | ((first | (refine gsel_split (fun q' => ?_) (fun q' => ?_) <;> (have h' := q') <;> (try simp only [decide_eq_true_eq, decide_eq_false_iff_not, zba, zbb, bne_iff_ne, ne_eq, beq_iff_eq, bne_eq_false_iff_eq, beq_eq_false_iff_ne, zia, zib, zic, zid, zda, zbc, zbd, zbe, gt_iff_lt, ge_iff_le] at h') <;> try (exfalso; omega)) | (have q' := trivial; first | refine callX_shared (c1) rfl (by decide) ?_ | refine callY_shared (c1) rfl ?_ | refine callX_new (c2) rfl (by decide) ?_ | refine callY_new (c2) rfl ?_ | refine callX_new (c3) rfl (by decide) ?_ | refine callY_new (c3) rfl ?_ | refine hE _ _ ret_ne ?_ | refine hE _ _ exit_ne ?_)) <;> (try simp (disch := first | omega | decide +kernel) only [q', D.alg, go_sem, zqa, zqb, zqc, zqd, zqe, ↓reduceIte, reduceCtorEq, zqf, zqg, zqh]) <;> clear q') | (refine hN _ ?_ ?_ Wk.kk) | (with_reducible refine And.intro ?_ ?_) | (with_reducible omega) | (exact ok_ints) | (exact cells_ints) | (exact no_mem) | (with_reducible exact plain_ints) | (refine le_maxLen ?_; omega) | (refine List.forall_mem_cons.2 ⟨?_, ?_⟩) | (simp only [go_sem, zqc, zqb, List.mem_cons, List.not_mem_nil, forall_eq]; done)))
        all_goals (first | omega)
      | true =>
        have e : okIn p u cs d a = true := by unfold okIn; rw [h1, h2, Int.toNat_natCast, h3]; rfl
        rw [h3] at c3
        rw [e]
        unfold InP at ht
        rw [Int.toNat_natCast, e] at ht
        simp only [true_and] at ht
        have c4 := Ctr.tupN (ys := [_, _]) (independent_ok hp hu (cnf_len hpo.2) hd.2)
        obtain ⟨g1, _, g3, _⟩ := indP_ok hp hu cs d
        have hsp := (g3.trans (prodsP_eq (fun d => gradI_gm hu d) (fun d => gradN_gm u d))) (dnT (2 ^ u) a)
        rw [← hsp] at ht
        have c5 := Ctr.data1 (dense_ok hp1 hu (a := a) (by omega) h3)
        have hvv := Vec.dn (p := p) (by omega) (isT_tms h3)
        have hP := g1.toP hu
        have c6 := reduceD_ok hp1 hu hP hvv
        have hrv := (redQ_vec (p := p) (by omega) (M := (indP p u cs d).1.M) (many := (indP p u cs d).1.many) g1.ech.vec hvv _ (Nat.le_refl _)).1.1
        have hz := redQ_zero (p := p) (u := u) (M := (indP p u cs d).1.M) (many := (indP p u cs d).1.many) (by omega) g1.ech hvv ht
        generalize (redQ p (indP p u cs d).1.R (indP p u cs d).1.M (dnT (2 ^ u) a) (indP p u cs d).1.many (indP p u cs d).1.R.length).2 = md at *
        generalize (redQ p (indP p u cs d).1.R (indP p u cs d).1.M (dnT (2 ^ u) a) (indP p u cs d).1.many (indP p u cs d).1.R.length).1 = rest at *
        generalize (indP p u cs d).1.R = R at *
        generalize (indP p u cs d).1.M = M at *
        generalize (indP p u cs d).1.many = many at *
        generalize (indP p u cs d).2 = K at *
        generalize dnT (2 ^ u) a = V at *
        have c7 := isZero_ok (v := rest) (by omega)
        rw [hz] at c7
        clear ht hf hsp g1 g3 hvv hP hz
        refine Ctr.of (n := 57) (rs := [.tmp 8, .tmp 9]) Try.func50 rfl rfl Try.ntmps50 rfl rfl (by kernel_rfl) Try.checked.mixed ?_
        simp (disch := first | omega | decide +kernel) only [D.ints, D.alg, go_sem, zqa, zqb, zqc, zqd, zqe, ↓reduceIte, reduceCtorEq, zqf, zqg, zqh]
        (repeat' (first | ((first | (refine gsel_split (fun q' => ?_) (fun q' => ?_) <;> (have h' := q') <;> (try simp only [decide_eq_true_eq, decide_eq_false_iff_not, zba, zbb, bne_iff_ne, ne_eq, beq_iff_eq, bne_eq_false_iff_eq, beq_eq_false_iff_ne, zia, zib, zic, zid, zda, zbc, zbd, zbe, gt_iff_lt, ge_iff_le] at h') <;> try (exfalso; omega)) | (have q' := trivial; first | refine callX_shared (c1) rfl (by decide) ?_ | refine callY_shared (c1) rfl ?_ | refine callX_new (c2) rfl (by decide) ?_ | refine callY_new (c2) rfl ?_ | refine callX_new (c3) rfl (by decide) ?_ | refine callY_new (c3) rfl ?_ | refine callX_shared (c4) rfl (by decide) ?_ | refine callY_shared (c4) rfl ?_ | refine callX_shared (c5) rfl (by decide) ?_ | refine callY_shared (c5) rfl ?_ | refine callX_shared (c6) rfl (by decide) ?_ | refine callY_shared (c6) rfl ?_ | refine callX_new (c7) rfl (by decide) ?_ | refine callY_new (c7) rfl ?_ | refine hE _ _ ret_ne ?_ | refine hE _ _ exit_ne ?_)) <;> (try simp (disch := first | omega | decide +kernel) only [q', D.ints, D.alg, go_sem, zqa, zqb, zqc, zqd, zqe, ↓reduceIte, reduceCtorEq, zqf, zqg, zqh]) <;> clear q') | (refine hN _ ?_ ?_ Wk.kk) | (with_reducible refine And.intro ?_ ?_) | (with_reducible omega) | (exact ok_ints) | (exact cells_ints) | (exact no_mem) | (with_reducible exact plain_ints) | (refine le_maxLen ?_; omega) | (refine List.forall_mem_cons.2 ⟨?_, ?_⟩) | (simp only [go_sem, zqc, zqb, List.mem_cons, List.not_mem_nil, forall_eq]; done)))
        all_goals (first | omega)
end Abs.Y

namespace Abs.Y
open Go Go.Proofs Abs
open Nat renaming reduceEqDiff → zqa, reduceLT → zqb, reduceAdd → zqc, reduceMul → zqd, reduceSub → zqe, reduceLeDiff → zqf, reduceSubDiff → zqg, reduceBEq → zqh
open Bool renaming not_eq_true' → zba, not_eq_false' → zbb, and_eq_true → zbc, or_eq_true → zbd, or_eq_false_iff → zbe
open Int renaming ofNat_lt → zia, ofNat_le → zib, not_lt → zic, not_le → zid
open Decidable renaming not_not → zda
set_option maxRecDepth 100000


theorem szCnf_ok (v : Int) (a : List (List Int)) (left : Int) (hl : a.length ≤ 9223372036854775807) (hx : ∀ x ∈ a, x.length ≤ 9223372036854775807) (h1 : 0 ≤ left ∧ left ≤ 1048576) : Ctr Try.prog 12 [.agg [.int .i64 v, .slice (a.map D.ints)], .int .i64 left] false (.d (.int .i64 (szS szI a left))) [] := by
  have hf := szS_szF szI_szF a left h1.1
  refine Ctr.of (n := 12) (rs := [.tmp 4]) Try.func12 rfl rfl Try.ntmps12 rfl rfl (by kernel_rfl) Try.checked.mixed ?_
  simp (disch := first | omega | decide +kernel) only [go_sem, zqa, zqb, zqc, zqd, zqe, ↓reduceIte, reduceCtorEq, zqf, zqg, zqh]
  (repeat' (first | ((first | (refine gsel_split (fun q' => ?_) (fun q' => ?_) <;> (have h' := q') <;> (try simp only [decide_eq_true_eq, decide_eq_false_iff_not, zba, zbb, bne_iff_ne, ne_eq, beq_iff_eq, bne_eq_false_iff_eq, beq_eq_false_iff_ne, zia, zib, zic, zid, zda, zbc, zbd, zbe, gt_iff_lt, ge_iff_le] at h')) | (have q' := trivial; first | refine callX_new (szIntSS_ok a left hl hx h1) rfl (by decide) ?_ | refine callY_new (szIntSS_ok a left hl hx h1) rfl ?_ | refine hE _ _ ret_ne ?_ | refine hE _ _ exit_ne ?_)) <;> (try simp (disch := first | omega | decide +kernel) only [q', go_sem, zqa, zqb, zqc, zqd, zqe, ↓reduceIte, reduceCtorEq, zqf, zqg, zqh]) <;> clear q') | (refine hN _ ?_ ?_ Wk.kk) | (with_reducible refine And.intro ?_ ?_) | (with_reducible omega) | (exact ok_ints) | (exact cells_ints) | (exact no_mem) | (with_reducible exact plain_ints) | (refine le_maxLen ?_; omega) | (refine List.forall_mem_cons.2 ⟨?_, ?_⟩) | (simp only [go_sem, zqc, zqb, List.mem_cons, List.not_mem_nil, forall_eq]; done)))
  · have : szS szI a left = -1 := by omega
    rw [this]
theorem toCnf_ok (v : Int) (a : List (List Int)) (hl : a.length ≤ 4294967296) (hx : ∀ x ∈ a, x.length ≤ 4294967296) : Ctr Try.prog 15 [.agg [.int .i64 v, .slice (a.map D.ints)]] true (.d (.agg [.int .i64 v, .slice (a.map D.ints)])) [] := by
  have hc := Ctr.data1 (toIntSS_ok a hl hx)
  refine Ctr.of (n := 12) (rs := [.cell 2 30]) Try.func15 rfl rfl Try.ntmps15 rfl rfl (by kernel_rfl) Try.checked.mixed ?_
  simp (disch := first | omega | decide +kernel) only [go_sem, zqa, zqb, zqc, zqd, zqe, ↓reduceIte, reduceCtorEq, zqf, zqg, zqh]
  (repeat' (first | ((first | (refine gsel_split (fun q' => ?_) (fun q' => ?_) <;> (have h' := q') <;> (try simp only [decide_eq_true_eq, decide_eq_false_iff_not, zba, zbb, bne_iff_ne, ne_eq, beq_iff_eq, bne_eq_false_iff_eq, beq_eq_false_iff_ne, zia, zib, zic, zid, zda, zbc, zbd, zbe, gt_iff_lt, ge_iff_le] at h')) | (have q' := trivial; first | refine callX_shared (hc) rfl (by decide) ?_ | refine callY_shared (hc) rfl ?_ | refine hE _ _ ret_ne ?_ | refine hE _ _ exit_ne ?_)) <;> (try simp (disch := first | omega | decide +kernel) only [q', go_sem, zqa, zqb, zqc, zqd, zqe, ↓reduceIte, reduceCtorEq, zqf, zqg, zqh]) <;> clear q') | (refine hN _ ?_ ?_ Wk.kk) | (with_reducible refine And.intro ?_ ?_) | (with_reducible omega) | (exact ok_ints) | (exact cells_ints) | (exact no_mem) | (with_reducible exact plain_ints) | (refine le_maxLen ?_; omega) | (refine List.forall_mem_cons.2 ⟨?_, ?_⟩) | (simp only [go_sem, zqc, zqb, List.mem_cons, List.not_mem_nil, forall_eq]; done)))
  exact ret_cb rfl rfl (by simp only [go_sem]) (by simp only [go_sem, List.length_cons, List.length_nil]) rfl (by simp only [go_sem])
theorem eqCnf_ok (u v : Int) (a b : List (List Int)) (hl : a.length ≤ 4294967296) (hx : ∀ x ∈ a, x.length ≤ 4294967296) :
    Ctr Try.prog 18 [.agg [.int .i64 u, .slice (a.map D.ints)], .agg [.int .i64 v, .slice (b.map D.ints)]] false (.d (.bool (decide (u = v ∧ a = b)))) [] := by
  have hc := eqIntSS_ok a b hl hx
  refine Ctr.of (n := 16) (rs := [.tmp 4]) Try.func18 rfl rfl Try.ntmps18 rfl rfl (by kernel_rfl) Try.checked.mixed ?_
  simp (disch := first | omega | decide +kernel) only [go_sem, zqa, zqb, zqc, zqd, zqe, ↓reduceIte, reduceCtorEq, zqf, zqg, zqh]
  (repeat' (first | ((first | (refine gsel_split (fun q' => ?_) (fun q' => ?_) <;> (have h' := q') <;> (try simp only [decide_eq_true_eq, decide_eq_false_iff_not, zba, zbb, bne_iff_ne, ne_eq, beq_iff_eq, bne_eq_false_iff_eq, beq_eq_false_iff_ne, zia, zib, zic, zid, zda, zbc, zbd, zbe, gt_iff_lt, ge_iff_le] at h')) | (have q' := trivial; first | refine callX_new (hc) rfl (by decide) ?_ | refine callY_new (hc) rfl ?_ | refine hE _ _ ret_ne ?_ | refine hE _ _ exit_ne ?_)) <;> (try simp (disch := first | omega | decide +kernel) only [q', go_sem, zqa, zqb, zqc, zqd, zqe, ↓reduceIte, reduceCtorEq, zqf, zqg, zqh]) <;> clear q') | (refine hN _ ?_ ?_ Wk.kk) | (with_reducible refine And.intro ?_ ?_) | (with_reducible omega) | (exact ok_ints) | (exact cells_ints) | (exact no_mem) | (with_reducible exact plain_ints) | (refine le_maxLen ?_; omega) | (refine List.forall_mem_cons.2 ⟨?_, ?_⟩) | (simp only [go_sem, zqc, zqb, List.mem_cons, List.not_mem_nil, forall_eq]; done)))
  all_goals (first | (simp_all [D.plain]; done))

end Abs.Y

namespace Abs.Y
open Go Go.Proofs Abs
open Nat renaming reduceEqDiff → zqa, reduceLT → zqb, reduceAdd → zqc, reduceMul → zqd, reduceSub → zqe, reduceLeDiff → zqf, reduceSubDiff → zqg, reduceBEq → zqh
open Bool renaming not_eq_true' → zba, not_eq_false' → zbb, and_eq_true → zbc, or_eq_true → zbd, or_eq_false_iff → zbe
open Int renaming ofNat_lt → zia, ofNat_le → zib, not_lt → zic, not_le → zid
open Decidable renaming not_not → zda
set_option maxRecDepth 100000

abbrev Tm := Int × Int
def szT (a : List Tm) (left : Int) : Int := szI (a.map Prod.fst) left
theorem szT_len {a : List Tm} {left : Int} (h : 0 ≤ szT a left) : (a.length : Int) ≤ left := by
  have := szI_len h
  rwa [List.length_map] at this
theorem szTermS_ok (a : List Tm) (left : Int) (hl : a.length ≤ 9223372036854775807) (h1 : 0 ≤ left ∧ left ≤ 1048576) : Ctr Try.prog 47 [D.tms a, .int .i64 left] false (.d (.int .i64 (szT a left))) [] := by
  refine Ctr.of (n := 12) (rs := [.tmp 4]) Try.func47 rfl rfl Try.ntmps47 rfl rfl (by kernel_rfl) Try.checked.mixed ?_
  simp (disch := first | omega | decide +kernel) only [go_sem, zqa, zqb, zqc, zqd, zqe, ↓reduceIte, reduceCtorEq, zqf, zqg, zqh]
  (repeat' (first | ((first | (refine gsel_split (fun q' => ?_) (fun q' => ?_) <;> (have h' := q') <;> (try simp only [decide_eq_true_eq, decide_eq_false_iff_not, zba, zbb, bne_iff_ne, ne_eq, beq_iff_eq, bne_eq_false_iff_eq, beq_eq_false_iff_ne, zia, zib, zic, zid, zda, zbc, zbd, zbe, gt_iff_lt, ge_iff_le] at h')) | (have q' := trivial; first | refine hE _ _ ret_ne ?_ | refine hE _ _ exit_ne ?_)) <;> (try simp (disch := first | omega | decide +kernel) only [q', go_sem, zqa, zqb, zqc, zqd, zqe, ↓reduceIte, reduceCtorEq, zqf, zqg, zqh]) <;> clear q') | (refine hN _ ?_ ?_ Wk.kk) | (with_reducible refine And.intro ?_ ?_) | (with_reducible omega) | (exact ok_ints) | (exact cells_ints) | (exact no_mem) | (with_reducible exact plain_ints) | (refine le_maxLen ?_; omega) | (refine List.forall_mem_cons.2 ⟨?_, ?_⟩) | (simp only [go_sem, zqc, zqb, List.mem_cons, List.not_mem_nil, forall_eq]; done)))
  · simp [szT, szI, h', D.plain]
  · simp [szT, szI, show ¬ (left - a.length < 0) by omega]
theorem toTerm_ok (t : Tm) : Ctr Try.prog 117 [D.tm t] true (.d (D.tm t)) [] := by
  refine Ctr.of (n := 11) (rs := [.cell 2 124]) Try.func117 rfl rfl Try.ntmps117 rfl rfl (by kernel_rfl) Try.checked.mixed ?_
  simp (disch := first | omega | decide +kernel) only [go_sem, zqa, zqb, zqc, zqd, zqe, ↓reduceIte, reduceCtorEq, zqf, zqg, zqh]
  (repeat' (first | ((first | (refine gsel_split (fun q' => ?_) (fun q' => ?_) <;> (have h' := q') <;> (try simp only [decide_eq_true_eq, decide_eq_false_iff_not, zba, zbb, bne_iff_ne, ne_eq, beq_iff_eq, bne_eq_false_iff_eq, beq_eq_false_iff_ne, zia, zib, zic, zid, zda, zbc, zbd, zbe, gt_iff_lt, ge_iff_le] at h')) | (have q' := trivial; first | refine hE _ _ ret_ne ?_ | refine hE _ _ exit_ne ?_)) <;> (try simp (disch := first | omega | decide +kernel) only [q', go_sem, zqa, zqb, zqc, zqd, zqe, ↓reduceIte, reduceCtorEq, zqf, zqg, zqh]) <;> clear q') | (refine hN _ ?_ ?_ Wk.kk) | (with_reducible refine And.intro ?_ ?_) | (with_reducible omega) | (exact ok_ints) | (exact cells_ints) | (exact no_mem) | (with_reducible exact plain_ints) | (refine le_maxLen ?_; omega) | (refine List.forall_mem_cons.2 ⟨?_, ?_⟩) | (simp only [go_sem, zqc, zqb, List.mem_cons, List.not_mem_nil, forall_eq]; done)))
  all_goals (first | exact ret_cb rfl rfl (by simp only [go_sem]) (by simp only [go_sem, List.length_cons, List.length_nil]) rfl (by simp only [go_sem]))
theorem eqTerm_ok (s t : Tm) : Ctr Try.prog 120 [D.tm s, D.tm t] false (.d (.bool (decide (s = t)))) [] := by
  obtain ⟨a, b⟩ := s
  obtain ⟨c, d⟩ := t
  have e : decide ((a, b) = (c, d)) = (decide (a = c) && decide (b = d)) := by
    by_cases h1 : a = c <;> by_cases h2 : b = d <;> simp [h1, h2]
  rw [e]
  refine Ctr.of (n := 15) (rs := [.tmp 4]) Try.func120 rfl rfl Try.ntmps120 rfl rfl (by kernel_rfl) Try.checked.mixed ?_
  simp (disch := first | omega | decide +kernel) only [go_sem, zqa, zqb, zqc, zqd, zqe, ↓reduceIte, reduceCtorEq, zqf, zqg, zqh]
  (repeat' (first | ((first | (refine gsel_split (fun q' => ?_) (fun q' => ?_) <;> (have h' := q') <;> (try simp only [decide_eq_true_eq, decide_eq_false_iff_not, zba, zbb, bne_iff_ne, ne_eq, beq_iff_eq, bne_eq_false_iff_eq, beq_eq_false_iff_ne, zia, zib, zic, zid, zda, zbc, zbd, zbe, gt_iff_lt, ge_iff_le] at h')) | (have q' := trivial; first | refine hE _ _ ret_ne ?_ | refine hE _ _ exit_ne ?_)) <;> (try simp (disch := first | omega | decide +kernel) only [q', go_sem, zqa, zqb, zqc, zqd, zqe, ↓reduceIte, reduceCtorEq, zqf, zqg, zqh]) <;> clear q') | (refine hN _ ?_ ?_ Wk.kk) | (with_reducible refine And.intro ?_ ?_) | (with_reducible omega) | (exact ok_ints) | (exact cells_ints) | (exact no_mem) | (with_reducible exact plain_ints) | (refine le_maxLen ?_; omega) | (refine List.forall_mem_cons.2 ⟨?_, ?_⟩) | (simp only [go_sem, zqc, zqb, List.mem_cons, List.not_mem_nil, forall_eq]; done)))
  all_goals (first | omega | (simp_all [D.plain]; done))
end Abs.Y
