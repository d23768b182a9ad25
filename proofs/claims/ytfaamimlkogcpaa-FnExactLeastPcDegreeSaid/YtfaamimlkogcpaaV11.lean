/- What functions of this program compute, as contracts over plain data, with what the proofs need of them. No condition. -/
import Derived.Test.YtfaamimlkogcpaaV7
import Derived.Test.YtfaamimlkogcpaaV2
set_option linter.all false
namespace Abs
open Go Go.Proofs
def cellD (v : AV) (x : D) : Prop := v = .d x ∨ (v = .nilS ∧ x = .slice [])
def cellsD : List AV → List D → Prop
  | [], [] => True
  | v :: r, x :: s => cellD v x ∧ cellsD r s
  | _, _ => False
theorem cellsD_at : ∀ {vs : List AV} {xs : List D}, cellsD vs xs → vs.length = xs.length ∧ ∀ i, i < xs.length → cellD (vs.getD i .undef) (xs.getD i .nilptr)
  | [], [], _ => ⟨rfl, fun i hi => by simp at hi⟩
  | [], _ :: _, h => h.elim
  | _ :: _, [], h => h.elim
  | v :: r, x :: s, h => by
    have ih := cellsD_at h.2
    refine ⟨by simp [ih.1], fun i hi => ?_⟩
    cases i with
    | zero => exact h.1
    | succ i => exact ih.2 i (by simpa using hi)
theorem rd_of_box {β : Nat → Value} {S S' : Nat → Prop} {w : World} {e : TypeId} {x : D} {cells : List AV} {v : Value} {F : Nat → Prop} (h : OK β S w (.box e cells) v F) (hc : cellsD cells x.cells) (hS : ∀ g, S g → g < w.heap.size → S' g) (hg : ∀ g, F g → S' g) :
    ∃ b c, v = .slice (some ⟨b, 0, none⟩) 1 c ∧ Rd S' w (.ptr x) (.pointer (some ⟨b, 0, none⟩)) := by
  obtain ⟨hlen, hcd⟩ := cellsD_at hc
  cases h with
  | box hF xs hv hw hrel =>
    have hw' := hw
    rcases hw.2 with ⟨h1, _⟩ | ⟨g, cap, cur, h1, _, h3, h4, _⟩
    · exact absurd h1 hv
    · subst h1
      refine ⟨g, cap, rfl, .ptr (fun i => xs.getD i Go.undef) (fun i hi => ⟨hg g (by rw [hF]; rfl), ?_⟩) fun i hi => ?_⟩
      · have h9 : i < xs.length := by rw [hw'.1, Nat.one_mul, hlen]; exact hi
        have h10 := ownsRow_cell hw' rfl h9
        rwa [Nat.zero_add]
      · have h5 := hrel i (by omega)
        rcases hcd i hi with h6 | ⟨h6, h7⟩
        · rw [h6] at h5
          cases h5 with
          | d h5 => exact h5.move fun g hg hl => ⟨hS g hg hl, rfl⟩
        · rw [h6] at h5
          rw [h7]
          generalize xs.getD i Go.undef = q at *
          cases h5 with
          | nilS => exact .nil _
theorem Ctr.boxD {P : Program} {f : FuncId} {xs : List D} {e : TypeId} {x y : D} {cells : List AV} (hc : cellsD cells x.cells) (h : Ctr P f xs true (.tup [.p 0 0, .d y]) [(0, .box e cells)]) : Ctr P f xs true (.tup [.d (.ptr x), .d y]) [] := by
  refine ⟨h.1, fun S w vs hl hr => (h.2 S w vs hl hr).mono fun en w' ⟨v, he, hf, β, φ, hrel, hobj, hown, hdis⟩ => ⟨v, he, hf, β, φ, ?_, by simp [lk], by simp [lk], by simp [lk]⟩⟩
  obtain ⟨b, c, hb, hrd⟩ := rd_of_box (S' := free (fun g => w.heap.size ≤ g ∨ (true = true ∧ S g)) φ []) (hobj 0 (.box e cells) (by simp [lk])) hc (fun g hg _ => ⟨hg.1, by simp [lk]⟩) fun g hg => ⟨.inl (hown 0 (.box e cells) g (by simp [lk]) hg), by simp [lk]⟩
  cases hrel with
  | tup hl2 hrl =>
    refine .tup (by simpa using hl2) fun i hi => ?_
    match i, hi with
    | 0, _ =>
      have := hrl 0 (by simp)
      simp only [List.getD_cons_zero] at this ⊢
      generalize hq : List.getD _ 0 Go.undef = q at *
      cases this with
      | p h => rw [hb] at h; cases h; exact .d (by simpa using hrd)
    | 1, _ =>
      have := hrl 1 (by simp)
      simp only [List.getD_cons_succ, List.getD_cons_zero] at this ⊢
      generalize hq : List.getD _ 1 Go.undef = q at *
      cases this with
      | d h => exact .d (h.move fun g hg _ => ⟨⟨hg.1, by simp [lk]⟩, rfl⟩)
theorem ret_pd {P : Program} {t u j : Nat} {e : TypeId} {cells : List AV} {y : D} {st : St} (js : List Nat) (h : lk t (frzs js st).s = some (.p j 0)) (h' : lk u (frzs js st).s = some (.d y)) (hj : lk j (frzs js st).o = some (.box e cells)) (hc : AV.renL (fun _ => j) cells = cells) :
    retQ P [.tmp t, .tmp u] true (.tup [.p 0 0, .d y]) [(0, .box e cells)] .ret st := by
  refine .inr ⟨rfl, js, ?_⟩
  simp only [retO, resV, h, h']
  exact ⟨trivial, .one j rfl (by rw [hj, AO.ren, hc]), .inl trivial⟩
end Abs
namespace Abs.Y
open Go Go.Proofs Abs
open Nat renaming reduceEqDiff → zqa, reduceLT → zqb, reduceAdd → zqc, reduceMul → zqd, reduceSub → zqe, reduceLeDiff → zqf, reduceSubDiff → zqg, reduceBEq → zqh
open Bool renaming not_eq_true' → zba, not_eq_false' → zbb, and_eq_true → zbc, or_eq_true → zbd, or_eq_false_iff → zbe
open Int renaming ofNat_lt → zia, ofNat_le → zib, not_lt → zic, not_le → zid
open Decidable renaming not_not → zda
set_option maxRecDepth 100000

@[reducible] def D.alg (p : Int) (u : Nat) (cs : List (List Int)) (q : List (List Int)) : D := .agg [.int .i64 p, .int .i64 u, .int .i64 u, .slice (cs.map D.ints), .slice (q.map D.ints)]
theorem cnf_lits {u : Nat} {cs : List (List Int)} (h : okCnf u cs = true) {c : List Int} (hc : c ∈ cs) : ∀ l ∈ c, LitU u l := fun l hl => by
  simp only [okCnf, zbc, List.all_eq_true] at h
  have h1 := h.2 c hc
  have hv := h.1.1
  simp only [okClause, zbc, decide_eq_true_eq] at h1
  obtain ⟨j, hj, rfl⟩ := mem_getD 0 hl
  obtain ⟨⟨h2, h3, h4⟩, _⟩ := h1.2 j hj
  unfold LitU
  omega
theorem cnf_len {v : Int} {cs : List (List Int)} (h : okCnf v cs = true) : cs.length ≤ 60 := by
  simp only [okCnf, zbc, decide_eq_true_eq] at h
  exact h.1.2
def slotQ (k : Nat) (out : List (List Int)) : AV := match out with | [] => .nilS | _ :: _ => .sl k
def objQ (k : Nat) (e : TypeId) (out : List (List Int)) (o : List (Nat × AO)) : List (Nat × AO) := match out with | [] => o | x :: r => (k, .arr e 1 ((x :: r).map D.ints)) :: o
def slotF (out : List (List Int)) : AV := match out with | [] => .nilS | x :: r => .d (.slice ((x :: r).map D.ints))
theorem slotF_d (out : List (List Int)) : cellD (slotF out) (.slice (out.map D.ints)) := by
  cases out with
  | nil => exact .inr ⟨rfl, rfl⟩
  | cons x r => exact .inl rfl
end Abs.Y

namespace Abs
open Go Go.Proofs
end Abs
namespace Abs.Y
open Go Go.Proofs Abs
open Nat renaming reduceEqDiff → zqa, reduceLT → zqb, reduceAdd → zqc, reduceMul → zqd, reduceSub → zqe, reduceLeDiff → zqf, reduceSubDiff → zqg, reduceBEq → zqh
open Bool renaming not_eq_true' → zba, not_eq_false' → zbb, and_eq_true → zbc, or_eq_true → zbd, or_eq_false_iff → zbe
open Int renaming ofNat_lt → zia, ofNat_le → zib, not_lt → zic, not_le → zid
open Decidable renaming not_not → zda
set_option maxRecDepth 100000

def sumQ (p : Int) (u : Nat) (g q : List (List Int)) : List Int := (List.range g.length).foldl (fun v i => addD p 1 v (mulD p (2 ^ u) (g.getD i []) (q.getD i []))) (List.replicate (2 ^ u) 0)
section
variable {p : Int} {u : Nat} (hp : 1 < p ∧ p ≤ 5) (hu : u ≤ 6)
include hp hu
end
end Abs.Y

namespace Abs.Y
open Go Go.Proofs Abs
open Nat renaming reduceEqDiff → zqa, reduceLT → zqb, reduceAdd → zqc, reduceMul → zqd, reduceSub → zqe, reduceLeDiff → zqf, reduceSubDiff → zqg, reduceBEq → zqh
open Bool renaming not_eq_true' → zba, not_eq_false' → zbb, and_eq_true → zbc, or_eq_true → zbd, or_eq_false_iff → zbe
open Int renaming ofNat_lt → zia, ofNat_le → zib, not_lt → zic, not_le → zid
open Decidable renaming not_not → zda
set_option maxRecDepth 100000

section
variable {p : Int} {u : Nat} (hp : 1 < p ∧ p ≤ 5) (hu : u ≤ 6)
include hp hu
end
end Abs.Y

namespace Abs.Y
open Go Go.Proofs Abs
open Nat renaming reduceEqDiff → zqa, reduceLT → zqb, reduceAdd → zqc, reduceMul → zqd, reduceSub → zqe, reduceLeDiff → zqf, reduceSubDiff → zqg, reduceBEq → zqh
open Bool renaming not_eq_true' → zba, not_eq_false' → zbb, and_eq_true → zbc, or_eq_true → zbd, or_eq_false_iff → zbe
open Int renaming ofNat_lt → zia, ofNat_le → zib, not_lt → zic, not_le → zid
open Decidable renaming not_not → zda
set_option maxRecDepth 100000

def cntF : Nat → Nat → Nat
  | 0, _ => 0
  | f + 1, n => n % 2 + cntF f (n / 2)
def cnt (m : Nat) : Nat := cntF 6 m
theorem cntF_zero : ∀ f, cntF f 0 = 0
  | 0 => rfl
  | f + 1 => by rw [cntF, Nat.zero_mod, Nat.zero_div, cntF_zero f]
theorem cntF_le : ∀ f n, cntF f n ≤ f
  | 0, _ => Nat.le_refl _
  | f + 1, n => by
    have := cntF_le f (n / 2)
    rw [cntF]; omega
theorem cnt_le (m : Nat) : cnt m ≤ 6 := cntF_le 6 m
theorem ones64_ok {m : Nat} (hm : m < 64) : Ctr Try.prog 145 [.int .u64 m] false (.d (.int .i64 (cnt m))) [] := by
  refine Ctr.of (n := 35) (rs := [.tmp 2]) Try.func145 rfl rfl Try.ntmps145 rfl rfl (by kernel_rfl) Try.checked.mixed ?_
  simp (disch := first | omega | decide +kernel) only [go_sem, zqa, zqb, zqc, zqd, zqe, ↓reduceIte, reduceCtorEq, zqf, zqg, zqh]
  (repeat' (first | ((first | (refine gsel_split (fun q' => ?_) (fun q' => ?_) <;> (have h' := q') <;> (try simp only [decide_eq_true_eq, decide_eq_false_iff_not, zba, zbb, bne_iff_ne, ne_eq, beq_iff_eq, bne_eq_false_iff_eq, beq_eq_false_iff_ne, zia, zib, zic, zid, zda, zbc, zbd, zbe, gt_iff_lt, ge_iff_le] at h') <;> try (exfalso; omega)) | (have q' := trivial; first | refine hE _ _ ret_ne ?_ | refine hE _ _ exit_ne ?_)) <;> (try simp (disch := first | omega | decide +kernel) only [q', go_sem, zqa, zqb, zqc, zqd, zqe, ↓reduceIte, reduceCtorEq, zqf, zqg, zqh]) <;> clear q') | (refine hN _ ?_ ?_ Wk.kk) | (with_reducible refine And.intro ?_ ?_) | (with_reducible omega) | (exact ok_ints) | (exact cells_ints) | (exact no_mem) | (with_reducible exact plain_ints) | (refine le_maxLen ?_; omega) | (refine List.forall_mem_cons.2 ⟨?_, ?_⟩) | (simp only [go_sem, zqc, zqb, List.mem_cons, List.not_mem_nil, forall_eq]; done)))
  all_goals (first | (refine congrArg (D.int .i64) ?_; revert m; decide +kernel))
theorem ones_ok {m : Nat} (hm : m < 64) : Ctr Try.prog 122 [.int .u64 m] false (.d (.int .i64 (cnt m))) [] := by
  have c1 := ones64_ok hm
  generalize cnt m = n at *
  refine Ctr.of (n := 8) (rs := [.tmp 2]) Try.func122 rfl rfl Try.ntmps122 rfl rfl (by kernel_rfl) Try.checked.mixed ?_
  simp (disch := first | omega | decide +kernel) only [go_sem, zqa, zqb, zqc, zqd, zqe, ↓reduceIte, reduceCtorEq, zqf, zqg, zqh]
  (repeat' (first | ((first | (refine gsel_split (fun q' => ?_) (fun q' => ?_) <;> (have h' := q') <;> (try simp only [decide_eq_true_eq, decide_eq_false_iff_not, zba, zbb, bne_iff_ne, ne_eq, beq_iff_eq, bne_eq_false_iff_eq, beq_eq_false_iff_ne, zia, zib, zic, zid, zda, zbc, zbd, zbe, gt_iff_lt, ge_iff_le] at h') <;> try (exfalso; omega)) | (have q' := trivial; first | refine callX_new (c1) rfl (by decide) ?_ | refine callY_new (c1) rfl ?_ | refine hE _ _ ret_ne ?_ | refine hE _ _ exit_ne ?_)) <;> (try simp (disch := first | omega | decide +kernel) only [q', go_sem, zqa, zqb, zqc, zqd, zqe, ↓reduceIte, reduceCtorEq, zqf, zqg, zqh]) <;> clear q') | (refine hN _ ?_ ?_ Wk.kk) | (with_reducible refine And.intro ?_ ?_) | (with_reducible omega) | (exact ok_ints) | (exact cells_ints) | (exact no_mem) | (with_reducible exact plain_ints) | (refine le_maxLen ?_; omega) | (refine List.forall_mem_cons.2 ⟨?_, ?_⟩) | (simp only [go_sem, zqc, zqb, List.mem_cons, List.not_mem_nil, forall_eq]; done)))
  all_goals (first | omega)
theorem degreeOf_ok {m : Nat} (hm : m < 64) : Ctr Try.prog 96 [.int .i64 m] false (.d (.int .i64 (cnt m))) [] := by
  have e : IntKind.u64.wrap (m : Int) = m := by revert m; decide +kernel
  have c1 := ones_ok hm
  generalize cnt m = n at *
  refine Ctr.of (n := 6) (rs := [.tmp 2]) Try.func96 rfl rfl Try.ntmps96 rfl rfl (by kernel_rfl) Try.checked.mixed ?_
  simp (disch := first | omega | decide +kernel) only [e, go_sem, zqa, zqb, zqc, zqd, zqe, ↓reduceIte, reduceCtorEq, zqf, zqg, zqh]
  (repeat' (first | ((first | (refine gsel_split (fun q' => ?_) (fun q' => ?_) <;> (have h' := q') <;> (try simp only [decide_eq_true_eq, decide_eq_false_iff_not, zba, zbb, bne_iff_ne, ne_eq, beq_iff_eq, bne_eq_false_iff_eq, beq_eq_false_iff_ne, zia, zib, zic, zid, zda, zbc, zbd, zbe, gt_iff_lt, ge_iff_le] at h') <;> try (exfalso; omega)) | (have q' := trivial; first | refine callX_new (c1) rfl (by decide) ?_ | refine callY_new (c1) rfl ?_ | refine hE _ _ ret_ne ?_ | refine hE _ _ exit_ne ?_)) <;> (try simp (disch := first | omega | decide +kernel) only [q', e, go_sem, zqa, zqb, zqc, zqd, zqe, ↓reduceIte, reduceCtorEq, zqf, zqg, zqh]) <;> clear q') | (refine hN _ ?_ ?_ Wk.kk) | (with_reducible refine And.intro ?_ ?_) | (with_reducible omega) | (exact ok_ints) | (exact cells_ints) | (exact no_mem) | (with_reducible exact plain_ints) | (refine le_maxLen ?_; omega) | (refine List.forall_mem_cons.2 ⟨?_, ?_⟩) | (simp only [go_sem, zqc, zqb, List.mem_cons, List.not_mem_nil, forall_eq]; done)))
  all_goals (first | omega)
theorem l14Count_ok {m : Nat} (hm : m < 64) : Ctr Try.prog 132 [.int .i64 m] false (.d (.int .i64 (cnt m))) [] := by
  refine Ctr.of (n := 13) (rs := [.tmp 2]) Try.func132 rfl rfl Try.ntmps132 rfl rfl (by kernel_rfl) Try.checked.mixed ?_
  simp (disch := first | omega | decide +kernel) only [go_sem, zqa, zqb, zqc, zqd, zqe, ↓reduceIte, reduceCtorEq, zqf, zqg, zqh]
  (repeat' (first | ((first | (refine gsel_split (fun q' => ?_) (fun q' => ?_) <;> (have h' := q') <;> (try simp only [decide_eq_true_eq, decide_eq_false_iff_not, zba, zbb, bne_iff_ne, ne_eq, beq_iff_eq, bne_eq_false_iff_eq, beq_eq_false_iff_ne, zia, zib, zic, zid, zda, zbc, zbd, zbe, gt_iff_lt, ge_iff_le] at h') <;> try (exfalso; omega)) | (have q' := trivial; first | refine hE _ _ ret_ne ?_ | refine hE _ _ exit_ne ?_)) <;> (try simp (disch := first | omega | decide +kernel) only [q', go_sem, zqa, zqb, zqc, zqd, zqe, ↓reduceIte, reduceCtorEq, zqf, zqg, zqh]) <;> clear q') | (refine hN _ ?_ ?_ Wk.kk) | (with_reducible refine And.intro ?_ ?_) | (with_reducible omega) | (exact ok_ints) | (exact cells_ints) | (exact no_mem) | (with_reducible exact plain_ints) | (refine le_maxLen ?_; omega) | (refine List.forall_mem_cons.2 ⟨?_, ?_⟩) | (simp only [go_sem, zqc, zqb, List.mem_cons, List.not_mem_nil, forall_eq]; done)))
  refine Ok.loopU [11, 10, 9, 8, 7, 6, 5, 4, 3, 1, 0] (fun (q : Nat × Nat) => [(0, .d (.int .i64 (q.1 : Nat))), (3, .d (.int .i64 (q.2 : Nat)))]) (fun _ => [])
    (fun n q => q.1 < 2 ^ n ∧ n ≤ 6 ∧ q.2 + cntF n q.1 = cnt m ∧ q.2 ≤ 6) 6 (m, 0) ⟨hm, Nat.le_refl _, by simp [cnt], by omega⟩ (Wk.kk) ?_
  rintro R n ⟨k, a⟩ hN hE ⟨hk, hn, hc, ha⟩
  simp only at hk hc ha
  have hpn : 2 ^ n ≤ 64 := pow_le6 hn
  by_cases h0 : k = 0
  · subst h0
    rw [cntF_zero, Nat.add_zero] at hc
    rw [← hc] at hE
    simp (disch := first | omega | decide +kernel) only [go_sem, zqa, zqb, zqc, zqd, zqe, ↓reduceIte, reduceCtorEq, zqf, zqg, zqh]
    (repeat' (first | ((first | (refine gsel_split (fun q' => ?_) (fun q' => ?_) <;> (have h' := q') <;> (try simp only [decide_eq_true_eq, decide_eq_false_iff_not, zba, zbb, bne_iff_ne, ne_eq, beq_iff_eq, bne_eq_false_iff_eq, beq_eq_false_iff_ne, zia, zib, zic, zid, zda, zbc, zbd, zbe, gt_iff_lt, ge_iff_le] at h') <;> try (exfalso; omega)) | (have q' := trivial; first | refine hE _ _ ret_ne ?_ | refine hE _ _ exit_ne ?_)) <;> (try simp (disch := first | omega | decide +kernel) only [q', go_sem, zqa, zqb, zqc, zqd, zqe, ↓reduceIte, reduceCtorEq, zqf, zqg, zqh]) <;> clear q') | (refine hN _ ?_ ?_ Wk.kk) | (with_reducible refine And.intro ?_ ?_) | (with_reducible omega) | (exact ok_ints) | (exact cells_ints) | (exact no_mem) | (with_reducible exact plain_ints) | (refine le_maxLen ?_; omega) | (refine List.forall_mem_cons.2 ⟨?_, ?_⟩) | (simp only [go_sem, zqc, zqb, List.mem_cons, List.not_mem_nil, forall_eq]; done)))
    all_goals (first | omega)
  · have hn0 : n ≠ 0 := fun e => by subst e; rw [Nat.pow_zero] at hk; omega
    obtain ⟨n, rfl⟩ : ∃ j, n = j + 1 := ⟨n - 1, by omega⟩
    rw [cntF] at hc
    have hcl := cnt_le m
    have e1 : Int.tmod (k : Int) 2 = ((k % 2 : Nat) : Int) := by rw [Int.tmod_eq_emod_of_nonneg (by omega)]; omega
    have e2 : Int.tdiv (k : Int) 2 = ((k / 2 : Nat) : Int) := by rw [Int.tdiv_eq_ediv_of_nonneg (by omega)]; omega
    have hk2 : k / 2 < 2 ^ n := by rw [Nat.pow_succ] at hk; omega
    simp (disch := first | omega | decide +kernel) only [e1, e2, go_sem, zqa, zqb, zqc, zqd, zqe, ↓reduceIte, reduceCtorEq, zqf, zqg, zqh]
    (repeat' (first | ((first | (refine gsel_split (fun q' => ?_) (fun q' => ?_) <;> (have h' := q') <;> (try simp only [decide_eq_true_eq, decide_eq_false_iff_not, zba, zbb, bne_iff_ne, ne_eq, beq_iff_eq, bne_eq_false_iff_eq, beq_eq_false_iff_ne, zia, zib, zic, zid, zda, zbc, zbd, zbe, gt_iff_lt, ge_iff_le] at h') <;> try (exfalso; omega)) | (have q' := trivial; first | refine hE _ _ ret_ne ?_ | refine hE _ _ exit_ne ?_)) <;> (try simp (disch := first | omega | decide +kernel) only [q', e1, e2, go_sem, zqa, zqb, zqc, zqd, zqe, ↓reduceIte, reduceCtorEq, zqf, zqg, zqh]) <;> clear q') | (refine hN _ ?_ ?_ Wk.kk) | (with_reducible refine And.intro ?_ ?_) | (with_reducible omega) | (exact ok_ints) | (exact cells_ints) | (exact no_mem) | (with_reducible exact plain_ints) | (refine le_maxLen ?_; omega) | (refine List.forall_mem_cons.2 ⟨?_, ?_⟩) | (simp only [go_sem, zqc, zqb, List.mem_cons, List.not_mem_nil, forall_eq]; done)))
    all_goals (first | omega | (refine hN n (k / 2, a + k % 2) _ (by omega) ⟨hk2, by omega, by simp only; omega, by simp only; omega⟩ (by refine Wk.auto ?_ ?_ <;> simp [extraK, lk, killL, St.kill, wipeO, wipeS, AV.has, AV.hasL, AO.wipe, List.map_set, updSt, insL, dropS, ins, ]); done))
end Abs.Y
