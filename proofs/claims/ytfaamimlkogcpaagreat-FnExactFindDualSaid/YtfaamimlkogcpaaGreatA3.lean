/- What functions of this program compute, as contracts over plain data, with what the proofs need of them. No condition. -/
import Derived.Test.YtfaamimlkogcpaaGreatV7
import Derived.Test.YtfaamimlkogcpaaGreatV2
import Derived.Test.YtfaamimlkogcpaaGreatV1
set_option linter.all false
namespace Abs
open Go Go.Proofs
def cellD (v : AV) (x : D) : Prop := v = .d x ∨ (v = .nilS ∧ x = .slice [])
def cellsD : List AV → List D → Prop
  | [], [] => True
  | v :: r, x :: s => cellD v x ∧ cellsD r s
  | _, _ => False
theorem cellsD_at : ∀ {vs : List AV} {xs : List D}, cellsD vs xs → vs.length = xs.length ∧ ∀ i, i < xs.length → cellD (vs.getD i .undef) (xs.getD i .nilptr)
  | [], [], _ => ⟨rfl, fun i hi => by simp at hi⟩
  | [], _ :: _, h => h.elim
  | _ :: _, [], h => h.elim
  | v :: r, x :: s, h => by
    have ih := cellsD_at h.2
    refine ⟨by simp [ih.1], fun i hi => ?_⟩
    cases i with
    | zero => exact h.1
    | succ i => exact ih.2 i (by simpa using hi)
theorem rd_of_box {β : Nat → Value} {S S' : Nat → Prop} {w : World} {e : TypeId} {x : D} {cells : List AV} {v : Value} {F : Nat → Prop} (h : OK β S w (.box e cells) v F) (hc : cellsD cells x.cells) (hS : ∀ g, S g → g < w.heap.size → S' g) (hg : ∀ g, F g → S' g) :
    ∃ b c, v = .slice (some ⟨b, 0, none⟩) 1 c ∧ Rd S' w (.ptr x) (.pointer (some ⟨b, 0, none⟩)) := by
  obtain ⟨hlen, hcd⟩ := cellsD_at hc
  cases h with
  | box hF xs hv hw hrel =>
    have hw' := hw
    rcases hw.2 with ⟨h1, _⟩ | ⟨g, cap, cur, h1, _, h3, h4, _⟩
    · exact absurd h1 hv
    · subst h1
      refine ⟨g, cap, rfl, .ptr (fun i => xs.getD i Go.undef) (fun i hi => ⟨hg g (by rw [hF]; rfl), ?_⟩) fun i hi => ?_⟩
      · have h9 : i < xs.length := by rw [hw'.1, Nat.one_mul, hlen]; exact hi
        have h10 := ownsRow_cell hw' rfl h9
        rwa [Nat.zero_add]
      · have h5 := hrel i (by omega)
        rcases hcd i hi with h6 | ⟨h6, h7⟩
        · rw [h6] at h5
          cases h5 with
          | d h5 => exact h5.move fun g hg hl => ⟨hS g hg hl, rfl⟩
        · rw [h6] at h5
          rw [h7]
          generalize xs.getD i Go.undef = q at *
          cases h5 with
          | nilS => exact .nil _
theorem Ctr.boxD {P : Program} {f : FuncId} {xs : List D} {e : TypeId} {x y : D} {cells : List AV} (hc : cellsD cells x.cells) (h : Ctr P f xs true (.tup [.p 0 0, .d y]) [(0, .box e cells)]) : Ctr P f xs true (.tup [.d (.ptr x), .d y]) [] := by
  refine ⟨h.1, fun S w vs hl hr => (h.2 S w vs hl hr).mono fun en w' ⟨v, he, hf, β, φ, hrel, hobj, hown, hdis⟩ => ⟨v, he, hf, β, φ, ?_, by simp [lk], by simp [lk], by simp [lk]⟩⟩
  obtain ⟨b, c, hb, hrd⟩ := rd_of_box (S' := free (fun g => w.heap.size ≤ g ∨ (true = true ∧ S g)) φ []) (hobj 0 (.box e cells) (by simp [lk])) hc (fun g hg _ => ⟨hg.1, by simp [lk]⟩) fun g hg => ⟨.inl (hown 0 (.box e cells) g (by simp [lk]) hg), by simp [lk]⟩
  cases hrel with
  | tup hl2 hrl =>
    refine .tup (by simpa using hl2) fun i hi => ?_
    match i, hi with
    | 0, _ =>
      have := hrl 0 (by simp)
      simp only [List.getD_cons_zero] at this ⊢
      generalize hq : List.getD _ 0 Go.undef = q at *
      cases this with
      | p h => rw [hb] at h; cases h; exact .d (by simpa using hrd)
    | 1, _ =>
      have := hrl 1 (by simp)
      simp only [List.getD_cons_succ, List.getD_cons_zero] at this ⊢
      generalize hq : List.getD _ 1 Go.undef = q at *
      cases this with
      | d h => exact .d (h.move fun g hg _ => ⟨⟨hg.1, by simp [lk]⟩, rfl⟩)
theorem ret_pd {P : Program} {t u j : Nat} {e : TypeId} {cells : List AV} {y : D} {st : St} (js : List Nat) (h : lk t (frzs js st).s = some (.p j 0)) (h' : lk u (frzs js st).s = some (.d y)) (hj : lk j (frzs js st).o = some (.box e cells)) (hc : AV.renL (fun _ => j) cells = cells) :
    retQ P [.tmp t, .tmp u] true (.tup [.p 0 0, .d y]) [(0, .box e cells)] .ret st := by
  refine .inr ⟨rfl, js, ?_⟩
  simp only [retO, resV, h, h']
  exact ⟨trivial, .one j rfl (by rw [hj, AO.ren, hc]), .inl trivial⟩
end Abs
namespace Abs.Y
open Go Go.Proofs Abs
open Nat renaming reduceEqDiff → zqa, reduceLT → zqb, reduceAdd → zqc, reduceMul → zqd, reduceSub → zqe, reduceLeDiff → zqf, reduceSubDiff → zqg, reduceBEq → zqh
open Bool renaming not_eq_true' → zba, not_eq_false' → zbb, and_eq_true → zbc, or_eq_true → zbd, or_eq_false_iff → zbe
open Int renaming ofNat_lt → zia, ofNat_le → zib, not_lt → zic, not_le → zid
open Decidable renaming not_not → zda
set_option maxRecDepth 100000

@[reducible] def D.alg (p : Int) (u : Nat) (cs : List (List Int)) (q : List (List Int)) : D := .agg [.int .i64 p, .int .i64 u, .int .i64 u, .slice (cs.map D.ints), .slice (q.map D.ints)]
theorem cnf_lits {u : Nat} {cs : List (List Int)} (h : okCnf u cs = true) {c : List Int} (hc : c ∈ cs) : ∀ l ∈ c, LitU u l := fun l hl => by
  simp only [okCnf, zbc, List.all_eq_true] at h
  have h1 := h.2 c hc
  have hv := h.1.1
  simp only [okClause, zbc, decide_eq_true_eq] at h1
  obtain ⟨j, hj, rfl⟩ := mem_getD 0 hl
  obtain ⟨⟨h2, h3, h4⟩, _⟩ := h1.2 j hj
  unfold LitU
  omega
theorem cnf_len {v : Int} {cs : List (List Int)} (h : okCnf v cs = true) : cs.length ≤ 60 := by
  simp only [okCnf, zbc, decide_eq_true_eq] at h
  exact h.1.2
def slotQ (k : Nat) (out : List (List Int)) : AV := match out with | [] => .nilS | _ :: _ => .sl k
def objQ (k : Nat) (e : TypeId) (out : List (List Int)) (o : List (Nat × AO)) : List (Nat × AO) := match out with | [] => o | x :: r => (k, .arr e 1 ((x :: r).map D.ints)) :: o
def slotF (out : List (List Int)) : AV := match out with | [] => .nilS | x :: r => .d (.slice ((x :: r).map D.ints))
theorem slotF_d (out : List (List Int)) : cellD (slotF out) (.slice (out.map D.ints)) := by
  cases out with
  | nil => exact .inr ⟨rfl, rfl⟩
  | cons x r => exact .inl rfl
end Abs.Y

namespace Abs
open Go Go.Proofs
end Abs
namespace Abs.Y
open Go Go.Proofs Abs
open Nat renaming reduceEqDiff → zqa, reduceLT → zqb, reduceAdd → zqc, reduceMul → zqd, reduceSub → zqe, reduceLeDiff → zqf, reduceSubDiff → zqg, reduceBEq → zqh
open Bool renaming not_eq_true' → zba, not_eq_false' → zbb, and_eq_true → zbc, or_eq_true → zbd, or_eq_false_iff → zbe
open Int renaming ofNat_lt → zia, ofNat_le → zib, not_lt → zic, not_le → zid
open Decidable renaming not_not → zda
set_option maxRecDepth 100000

def sumQ (p : Int) (u : Nat) (g q : List (List Int)) : List Int := (List.range g.length).foldl (fun v i => addD p 1 v (mulD p (2 ^ u) (g.getD i []) (q.getD i []))) (List.replicate (2 ^ u) 0)
section
variable {p : Int} {u : Nat} (hp : 1 < p ∧ p ≤ 5) (hu : u ≤ 6)
include hp hu
end
end Abs.Y

namespace Abs.Y
open Go Go.Proofs Abs
open Nat renaming reduceEqDiff → zqa, reduceLT → zqb, reduceAdd → zqc, reduceMul → zqd, reduceSub → zqe, reduceLeDiff → zqf, reduceSubDiff → zqg, reduceBEq → zqh
open Bool renaming not_eq_true' → zba, not_eq_false' → zbb, and_eq_true → zbc, or_eq_true → zbd, or_eq_false_iff → zbe
open Int renaming ofNat_lt → zia, ofNat_le → zib, not_lt → zic, not_le → zid
open Decidable renaming not_not → zda
set_option maxRecDepth 100000

section
variable {p : Int} {u : Nat} (hp : 1 < p ∧ p ≤ 5) (hu : u ≤ 6)
include hp hu
end
end Abs.Y

namespace Abs.Y
open Go Go.Proofs Abs
open Nat renaming reduceEqDiff → zqa, reduceLT → zqb, reduceAdd → zqc, reduceMul → zqd, reduceSub → zqe, reduceLeDiff → zqf, reduceSubDiff → zqg, reduceBEq → zqh
open Bool renaming not_eq_true' → zba, not_eq_false' → zbb, and_eq_true → zbc, or_eq_true → zbd, or_eq_false_iff → zbe
open Int renaming ofNat_lt → zia, ofNat_le → zib, not_lt → zic, not_le → zid
open Decidable renaming not_not → zda
set_option maxRecDepth 100000

def cntF : Nat → Nat → Nat
  | 0, _ => 0
  | f + 1, n => n % 2 + cntF f (n / 2)
def cnt (m : Nat) : Nat := cntF 6 m
theorem cntF_zero : ∀ f, cntF f 0 = 0
  | 0 => rfl
  | f + 1 => by rw [cntF, Nat.zero_mod, Nat.zero_div, cntF_zero f]
theorem cntF_le : ∀ f n, cntF f n ≤ f
  | 0, _ => Nat.le_refl _
  | f + 1, n => by
    have := cntF_le f (n / 2)
    rw [cntF]; omega
theorem cnt_le (m : Nat) : cnt m ≤ 6 := cntF_le 6 m
theorem ones64_ok {m : Nat} (hm : m < 64) : Ctr Tryz.prog 95 [.int .u64 m] false (.d (.int .i64 (cnt m))) [] := by
  refine Ctr.of (n := 35) (rs := [.tmp 2]) Tryz.func95 rfl rfl Tryz.ntmps95 rfl rfl (by kernel_rfl) Tryz.checked.mixed ?_
  simp (disch := first | omega | decide +kernel) only [go_sem, zqa, zqb, zqc, zqd, zqe, ↓reduceIte, reduceCtorEq, zqf, zqg, zqh]
  (repeat' (first | ((first | (refine gsel_split (fun q' => ?_) (fun q' => ?_) <;> (have h' := q') <;> (try simp only [decide_eq_true_eq, decide_eq_false_iff_not, zba, zbb, bne_iff_ne, ne_eq, beq_iff_eq, bne_eq_false_iff_eq, beq_eq_false_iff_ne, zia, zib, zic, zid, zda, zbc, zbd, zbe, gt_iff_lt, ge_iff_le] at h') <;> try (exfalso; omega)) | (have q' := trivial; first | refine hE _ _ ret_ne ?_ | refine hE _ _ exit_ne ?_)) <;> (try simp (disch := first | omega | decide +kernel) only [q', go_sem, zqa, zqb, zqc, zqd, zqe, ↓reduceIte, reduceCtorEq, zqf, zqg, zqh]) <;> clear q') | (refine hN _ ?_ ?_ Wk.kk) | (with_reducible refine And.intro ?_ ?_) | (with_reducible omega) | (exact ok_ints) | (exact cells_ints) | (exact no_mem) | (with_reducible exact plain_ints) | (refine le_maxLen ?_; omega) | (refine List.forall_mem_cons.2 ⟨?_, ?_⟩) | (simp only [go_sem, zqc, zqb, List.mem_cons, List.not_mem_nil, forall_eq]; done)))
  all_goals (first | (refine congrArg (D.int .i64) ?_; revert m; decide +kernel))
theorem ones_ok {m : Nat} (hm : m < 64) : Ctr Tryz.prog 82 [.int .u64 m] false (.d (.int .i64 (cnt m))) [] := by
  have c1 := ones64_ok hm
  generalize cnt m = n at *
  refine Ctr.of (n := 8) (rs := [.tmp 2]) Tryz.func82 rfl rfl Tryz.ntmps82 rfl rfl (by kernel_rfl) Tryz.checked.mixed ?_
  simp (disch := first | omega | decide +kernel) only [go_sem, zqa, zqb, zqc, zqd, zqe, ↓reduceIte, reduceCtorEq, zqf, zqg, zqh]
  (repeat' (first | ((first | (refine gsel_split (fun q' => ?_) (fun q' => ?_) <;> (have h' := q') <;> (try simp only [decide_eq_true_eq, decide_eq_false_iff_not, zba, zbb, bne_iff_ne, ne_eq, beq_iff_eq, bne_eq_false_iff_eq, beq_eq_false_iff_ne, zia, zib, zic, zid, zda, zbc, zbd, zbe, gt_iff_lt, ge_iff_le] at h') <;> try (exfalso; omega)) | (have q' := trivial; first | refine callX_new (c1) rfl (by decide) ?_ | refine callY_new (c1) rfl ?_ | refine hE _ _ ret_ne ?_ | refine hE _ _ exit_ne ?_)) <;> (try simp (disch := first | omega | decide +kernel) only [q', go_sem, zqa, zqb, zqc, zqd, zqe, ↓reduceIte, reduceCtorEq, zqf, zqg, zqh]) <;> clear q') | (refine hN _ ?_ ?_ Wk.kk) | (with_reducible refine And.intro ?_ ?_) | (with_reducible omega) | (exact ok_ints) | (exact cells_ints) | (exact no_mem) | (with_reducible exact plain_ints) | (refine le_maxLen ?_; omega) | (refine List.forall_mem_cons.2 ⟨?_, ?_⟩) | (simp only [go_sem, zqc, zqb, List.mem_cons, List.not_mem_nil, forall_eq]; done)))
  all_goals (first | omega)
theorem degreeOf_ok {m : Nat} (hm : m < 64) : Ctr Tryz.prog 58 [.int .i64 m] false (.d (.int .i64 (cnt m))) [] := by
  have e : IntKind.u64.wrap (m : Int) = m := by revert m; decide +kernel
  have c1 := ones_ok hm
  generalize cnt m = n at *
  refine Ctr.of (n := 6) (rs := [.tmp 2]) Tryz.func58 rfl rfl Tryz.ntmps58 rfl rfl (by kernel_rfl) Tryz.checked.mixed ?_
  simp (disch := first | omega | decide +kernel) only [e, go_sem, zqa, zqb, zqc, zqd, zqe, ↓reduceIte, reduceCtorEq, zqf, zqg, zqh]
  (repeat' (first | ((first | (refine gsel_split (fun q' => ?_) (fun q' => ?_) <;> (have h' := q') <;> (try simp only [decide_eq_true_eq, decide_eq_false_iff_not, zba, zbb, bne_iff_ne, ne_eq, beq_iff_eq, bne_eq_false_iff_eq, beq_eq_false_iff_ne, zia, zib, zic, zid, zda, zbc, zbd, zbe, gt_iff_lt, ge_iff_le] at h') <;> try (exfalso; omega)) | (have q' := trivial; first | refine callX_new (c1) rfl (by decide) ?_ | refine callY_new (c1) rfl ?_ | refine hE _ _ ret_ne ?_ | refine hE _ _ exit_ne ?_)) <;> (try simp (disch := first | omega | decide +kernel) only [q', e, go_sem, zqa, zqb, zqc, zqd, zqe, ↓reduceIte, reduceCtorEq, zqf, zqg, zqh]) <;> clear q') | (refine hN _ ?_ ?_ Wk.kk) | (with_reducible refine And.intro ?_ ?_) | (with_reducible omega) | (exact ok_ints) | (exact cells_ints) | (exact no_mem) | (with_reducible exact plain_ints) | (refine le_maxLen ?_; omega) | (refine List.forall_mem_cons.2 ⟨?_, ?_⟩) | (simp only [go_sem, zqc, zqb, List.mem_cons, List.not_mem_nil, forall_eq]; done)))
  all_goals (first | omega)
theorem l14Count_ok {m : Nat} (hm : m < 64) : Ctr Tryz.prog 40 [.int .i64 m] false (.d (.int .i64 (cnt m))) [] := by
  refine Ctr.of (n := 13) (rs := [.tmp 2]) Tryz.func40 rfl rfl Tryz.ntmps40 rfl rfl (by kernel_rfl) Tryz.checked.mixed ?_
  simp (disch := first | omega | decide +kernel) only [go_sem, zqa, zqb, zqc, zqd, zqe, ↓reduceIte, reduceCtorEq, zqf, zqg, zqh]
  (repeat' (first | ((first | (refine gsel_split (fun q' => ?_) (fun q' => ?_) <;> (have h' := q') <;> (try simp only [decide_eq_true_eq, decide_eq_false_iff_not, zba, zbb, bne_iff_ne, ne_eq, beq_iff_eq, bne_eq_false_iff_eq, beq_eq_false_iff_ne, zia, zib, zic, zid, zda, zbc, zbd, zbe, gt_iff_lt, ge_iff_le] at h') <;> try (exfalso; omega)) | (have q' := trivial; first | refine hE _ _ ret_ne ?_ | refine hE _ _ exit_ne ?_)) <;> (try simp (disch := first | omega | decide +kernel) only [q', go_sem, zqa, zqb, zqc, zqd, zqe, ↓reduceIte, reduceCtorEq, zqf, zqg, zqh]) <;> clear q') | (refine hN _ ?_ ?_ Wk.kk) | (with_reducible refine And.intro ?_ ?_) | (with_reducible omega) | (exact ok_ints) | (exact cells_ints) | (exact no_mem) | (with_reducible exact plain_ints) | (refine le_maxLen ?_; omega) | (refine List.forall_mem_cons.2 ⟨?_, ?_⟩) | (simp only [go_sem, zqc, zqb, List.mem_cons, List.not_mem_nil, forall_eq]; done)))
  refine Ok.loopU [11, 10, 9, 8, 7, 6, 5, 4, 3, 1, 0] (fun (q : Nat × Nat) => [(0, .d (.int .i64 (q.1 : Nat))), (3, .d (.int .i64 (q.2 : Nat)))]) (fun _ => [])
    (fun n q => q.1 < 2 ^ n ∧ n ≤ 6 ∧ q.2 + cntF n q.1 = cnt m ∧ q.2 ≤ 6) 6 (m, 0) ⟨hm, Nat.le_refl _, by simp [cnt], by omega⟩ (Wk.kk) ?_
  rintro R n ⟨k, a⟩ hN hE ⟨hk, hn, hc, ha⟩
  simp only at hk hc ha
  have hpn : 2 ^ n ≤ 64 := pow_le6 hn
  by_cases h0 : k = 0
  · subst h0
    rw [cntF_zero, Nat.add_zero] at hc
    rw [← hc] at hE
    simp (disch := first | omega | decide +kernel) only [go_sem, zqa, zqb, zqc, zqd, zqe, ↓reduceIte, reduceCtorEq, zqf, zqg, zqh]
    (repeat' (first | ((first | (refine gsel_split (fun q' => ?_) (fun q' => ?_) <;> (have h' := q') <;> (try simp only [decide_eq_true_eq, decide_eq_false_iff_not, zba, zbb, bne_iff_ne, ne_eq, beq_iff_eq, bne_eq_false_iff_eq, beq_eq_false_iff_ne, zia, zib, zic, zid, zda, zbc, zbd, zbe, gt_iff_lt, ge_iff_le] at h') <;> try (exfalso; omega)) | (have q' := trivial; first | refine hE _ _ ret_ne ?_ | refine hE _ _ exit_ne ?_)) <;> (try simp (disch := first | omega | decide +kernel) only [q', go_sem, zqa, zqb, zqc, zqd, zqe, ↓reduceIte, reduceCtorEq, zqf, zqg, zqh]) <;> clear q') | (refine hN _ ?_ ?_ Wk.kk) | (with_reducible refine And.intro ?_ ?_) | (with_reducible omega) | (exact ok_ints) | (exact cells_ints) | (exact no_mem) | (with_reducible exact plain_ints) | (refine le_maxLen ?_; omega) | (refine List.forall_mem_cons.2 ⟨?_, ?_⟩) | (simp only [go_sem, zqc, zqb, List.mem_cons, List.not_mem_nil, forall_eq]; done)))
    all_goals (first | omega)
  · have hn0 : n ≠ 0 := fun e => by subst e; rw [Nat.pow_zero] at hk; omega
    obtain ⟨n, rfl⟩ : ∃ j, n = j + 1 := ⟨n - 1, by omega⟩
    rw [cntF] at hc
    have hcl := cnt_le m
    have e1 : Int.tmod (k : Int) 2 = ((k % 2 : Nat) : Int) := by rw [Int.tmod_eq_emod_of_nonneg (by omega)]; omega
    have e2 : Int.tdiv (k : Int) 2 = ((k / 2 : Nat) : Int) := by rw [Int.tdiv_eq_ediv_of_nonneg (by omega)]; omega
    have hk2 : k / 2 < 2 ^ n := by rw [Nat.pow_succ] at hk; omega
    simp (disch := first | omega | decide +kernel) only [e1, e2, go_sem, zqa, zqb, zqc, zqd, zqe, ↓reduceIte, reduceCtorEq, zqf, zqg, zqh]
    (repeat' (first | ((first | (refine gsel_split (fun q' => ?_) (fun q' => ?_) <;> (have h' := q') <;> (try simp only [decide_eq_true_eq, decide_eq_false_iff_not, zba, zbb, bne_iff_ne, ne_eq, beq_iff_eq, bne_eq_false_iff_eq, beq_eq_false_iff_ne, zia, zib, zic, zid, zda, zbc, zbd, zbe, gt_iff_lt, ge_iff_le] at h') <;> try (exfalso; omega)) | (have q' := trivial; first | refine hE _ _ ret_ne ?_ | refine hE _ _ exit_ne ?_)) <;> (try simp (disch := first | omega | decide +kernel) only [q', e1, e2, go_sem, zqa, zqb, zqc, zqd, zqe, ↓reduceIte, reduceCtorEq, zqf, zqg, zqh]) <;> clear q') | (refine hN _ ?_ ?_ Wk.kk) | (with_reducible refine And.intro ?_ ?_) | (with_reducible omega) | (exact ok_ints) | (exact cells_ints) | (exact no_mem) | (with_reducible exact plain_ints) | (refine le_maxLen ?_; omega) | (refine List.forall_mem_cons.2 ⟨?_, ?_⟩) | (simp only [go_sem, zqc, zqb, List.mem_cons, List.not_mem_nil, forall_eq]; done)))
    all_goals (first | omega | (refine hN n (k / 2, a + k % 2) _ (by omega) ⟨hk2, by omega, by simp only; omega, by simp only; omega⟩ (by refine Wk.auto ?_ ?_ <;> simp [extraK, lk, killL, St.kill, wipeO, wipeS, AV.has, AV.hasL, AO.wipe, List.map_set, updSt, insL, dropS, ins, ]); done))
end Abs.Y

namespace Abs.Y
open Go Go.Proofs Abs
open Nat renaming reduceEqDiff → zqa, reduceLT → zqb, reduceAdd → zqc, reduceMul → zqd, reduceSub → zqe, reduceLeDiff → zqf, reduceSubDiff → zqg, reduceBEq → zqh
open Bool renaming not_eq_true' → zba, not_eq_false' → zbb, and_eq_true → zbc, or_eq_true → zbd, or_eq_false_iff → zbe
open Int renaming ofNat_lt → zia, ofNat_le → zib, not_lt → zic, not_le → zid
open Decidable renaming not_not → zda
set_option maxRecDepth 100000

def degT (a : List (Int × Int)) : Int := a.foldl (fun d t => max d (cnt t.1.toNat : Int)) (-1)
def degD (v : List Int) : Int := (List.range v.length).foldl (fun d m => if v.getD m 0 = 0 then d else max d (cnt m : Int)) (-1)
theorem deg_eq (v : List Int) : degT (spT v) = degD v := by
  have : ∀ (r : List Nat) (d : Int), ((r.filter fun m => decide (v.getD m 0 ≠ 0)).map fun m : Nat => ((m : Int), v.getD m 0)).foldl (fun d (t : Int × Int) => max d (cnt t.1.toNat : Int)) d = r.foldl (fun d m => if v.getD m 0 = 0 then d else max d (cnt m : Int)) d := by
    intro r
    induction r with
    | nil => intro d; rfl
    | cons m r ih =>
      intro d
      by_cases hz : v.getD m 0 = 0
      · rw [List.filter_cons_of_neg (by rw [decide_eq_true_eq]; exact fun h => h hz), List.foldl_cons, if_pos hz]
        exact ih d
      · rw [List.filter_cons_of_pos (by rw [decide_eq_true_eq]; exact hz), List.map_cons, List.foldl_cons, List.foldl_cons, if_neg hz]
        simp only [Int.toNat_natCast]
        exact ih _
  exact this _ _
theorem fold_max (a : List (Int × Int)) : ∀ d : Int, d ≤ a.foldl (fun d t => max d (cnt t.1.toNat : Int)) d ∧ a.foldl (fun d t => max d (cnt t.1.toNat : Int)) d ≤ max d 6 := by
  induction a with
  | nil => intro d; simp only [List.foldl_nil]; omega
  | cons t r ih =>
    intro d
    have h1 := ih (max d (cnt t.1.toNat : Int))
    have h2 := cnt_le t.1.toNat
    rw [List.foldl_cons]
    omega
theorem degT_neg (a : List (Int × Int)) : degT a < 0 ↔ a = [] := by
  cases a with
  | nil => simp [degT]
  | cons t r =>
    have := fold_max r (max (-1) (cnt t.1.toNat : Int))
    have h : degT (t :: r) = r.foldl (fun d t => max d (cnt t.1.toNat : Int)) (max (-1) (cnt t.1.toNat : Int)) := rfl
    constructor
    · intro hn; rw [h] at hn; omega
    · intro hn; cases hn
theorem degree_ok {v : List Int} (hl : v.length ≤ 64) : Ctr Tryz.prog 53 [.ints v] false (.d (.int .i64 (degD v))) [] := by
  refine Ctr.of (n := 21) (rs := [.tmp 2]) Tryz.func53 rfl rfl Tryz.ntmps53 rfl rfl (by kernel_rfl) Tryz.checked.mixed ?_
  simp (disch := first | omega | decide +kernel) only [D.ints, go_sem, zqa, zqb, zqc, zqd, zqe, ↓reduceIte, reduceCtorEq, zqf, zqg, zqh]
  (repeat' (first | ((first | (refine gsel_split (fun q' => ?_) (fun q' => ?_) <;> (have h' := q') <;> (try simp only [decide_eq_true_eq, decide_eq_false_iff_not, zba, zbb, bne_iff_ne, ne_eq, beq_iff_eq, bne_eq_false_iff_eq, beq_eq_false_iff_ne, zia, zib, zic, zid, zda, zbc, zbd, zbe, gt_iff_lt, ge_iff_le] at h') <;> try (exfalso; omega)) | (have q' := trivial; first | refine hE _ _ ret_ne ?_ | refine hE _ _ exit_ne ?_)) <;> (try simp (disch := first | omega | decide +kernel) only [q', D.ints, go_sem, zqa, zqb, zqc, zqd, zqe, ↓reduceIte, reduceCtorEq, zqf, zqg, zqh]) <;> clear q') | (refine hN _ ?_ ?_ Wk.kk) | (with_reducible refine And.intro ?_ ?_) | (with_reducible omega) | (exact ok_ints) | (exact cells_ints) | (exact no_mem) | (with_reducible exact plain_ints) | (refine le_maxLen ?_; omega) | (refine List.forall_mem_cons.2 ⟨?_, ?_⟩) | (simp only [go_sem, zqc, zqb, List.mem_cons, List.not_mem_nil, forall_eq]; done)))
  refine Ok.loopN [19, 18, 17, 16, 15, 14, 13, 12, 11, 10, 9, 8, 5, 4, 3, 1, 0] (fun i d => [(8, .d (.int .i64 (i : Nat))), (3, .d (.int .i64 d))]) (fun _ _ => []) v.length
    (fun i (d : Int) => d = (List.range i).foldl (fun d m => if v.getD m 0 = 0 then d else max d (cnt m : Int)) (-1)) (-1) rfl (Wk.kk) ?_
  rintro R i d hN hE hi hd
  by_cases hlt : i < v.length
  · have hs : (List.range (i + 1)).foldl (fun d m => if v.getD m 0 = 0 then d else max d (cnt m : Int)) (-1) = if v.getD i 0 = 0 then d else max d (cnt i : Int) := by
      rw [List.range_succ, List.foldl_append, ← hd]; rfl
    have c1 := degreeOf_ok (m := i) (by omega)
    have hkl := cnt_le i
    clear hd
    generalize cnt i = c at *
    by_cases hz : v.getD i 0 = 0
    · rw [if_pos hz] at hs
      have hb : (v.getD i 0 != 0) = false := by rw [hz]; rfl
      simp (disch := first | omega | decide +kernel) only [hb, go_sem, zqa, zqb, zqc, zqd, zqe, ↓reduceIte, reduceCtorEq, zqf, zqg, zqh]
      (repeat' (first | ((first | (refine gsel_split (fun q' => ?_) (fun q' => ?_) <;> (have h' := q') <;> (try simp only [decide_eq_true_eq, decide_eq_false_iff_not, zba, zbb, bne_iff_ne, ne_eq, beq_iff_eq, bne_eq_false_iff_eq, beq_eq_false_iff_ne, zia, zib, zic, zid, zda, zbc, zbd, zbe, gt_iff_lt, ge_iff_le] at h') <;> try (exfalso; omega)) | (have q' := trivial; first | refine callX_new (c1) rfl (by decide) ?_ | refine callY_new (c1) rfl ?_ | refine hE _ _ ret_ne ?_ | refine hE _ _ exit_ne ?_)) <;> (try simp (disch := first | omega | decide +kernel) only [q', hb, go_sem, zqa, zqb, zqc, zqd, zqe, ↓reduceIte, reduceCtorEq, zqf, zqg, zqh]) <;> clear q') | (refine hN _ ?_ ?_ Wk.kk) | (with_reducible refine And.intro ?_ ?_) | (with_reducible omega) | (exact ok_ints) | (exact cells_ints) | (exact no_mem) | (with_reducible exact plain_ints) | (refine le_maxLen ?_; omega) | (refine List.forall_mem_cons.2 ⟨?_, ?_⟩) | (simp only [go_sem, zqc, zqb, List.mem_cons, List.not_mem_nil, forall_eq]; done)))
      all_goals (first | omega | (refine hN d _ hlt hs.symm (by refine Wk.auto ?_ ?_ <;> simp [extraK, lk, killL, St.kill, wipeO, wipeS, AV.has, AV.hasL, AO.wipe, List.map_set, updSt, insL, dropS, ins, ]); done))
    · rw [if_neg hz] at hs
      have hb : (v.getD i 0 != 0) = true := bne_iff_ne.2 hz
      by_cases hdc : d < (c : Int)
      · rw [show max d (c : Int) = c by omega] at hs
        simp (disch := first | omega | decide +kernel) only [hb, if_pos hdc, go_sem, zqa, zqb, zqc, zqd, zqe, ↓reduceIte, reduceCtorEq, zqf, zqg, zqh]
        (repeat' (first | ((first | (refine gsel_split (fun q' => ?_) (fun q' => ?_) <;> (have h' := q') <;> (try simp only [decide_eq_true_eq, decide_eq_false_iff_not, zba, zbb, bne_iff_ne, ne_eq, beq_iff_eq, bne_eq_false_iff_eq, beq_eq_false_iff_ne, zia, zib, zic, zid, zda, zbc, zbd, zbe, gt_iff_lt, ge_iff_le] at h') <;> try (exfalso; omega)) | (have q' := trivial; first | refine callX_new (c1) rfl (by decide) ?_ | refine callY_new (c1) rfl ?_ | refine hE _ _ ret_ne ?_ | refine hE _ _ exit_ne ?_)) <;> (try simp (disch := first | omega | decide +kernel) only [q', hb, if_pos hdc, go_sem, zqa, zqb, zqc, zqd, zqe, ↓reduceIte, reduceCtorEq, zqf, zqg, zqh]) <;> clear q') | (refine hN _ ?_ ?_ Wk.kk) | (with_reducible refine And.intro ?_ ?_) | (with_reducible omega) | (exact ok_ints) | (exact cells_ints) | (exact no_mem) | (with_reducible exact plain_ints) | (refine le_maxLen ?_; omega) | (refine List.forall_mem_cons.2 ⟨?_, ?_⟩) | (simp only [go_sem, zqc, zqb, List.mem_cons, List.not_mem_nil, forall_eq]; done)))
        all_goals (first | omega | (refine hN (c : Int) _ hlt hs.symm (by refine Wk.auto ?_ ?_ <;> simp [extraK, lk, killL, St.kill, wipeO, wipeS, AV.has, AV.hasL, AO.wipe, List.map_set, updSt, insL, dropS, ins, if_pos hdc]); done))
      · rw [show max d (c : Int) = d by omega] at hs
        simp (disch := first | omega | decide +kernel) only [hb, if_neg hdc, go_sem, zqa, zqb, zqc, zqd, zqe, ↓reduceIte, reduceCtorEq, zqf, zqg, zqh]
        (repeat' (first | ((first | (refine gsel_split (fun q' => ?_) (fun q' => ?_) <;> (have h' := q') <;> (try simp only [decide_eq_true_eq, decide_eq_false_iff_not, zba, zbb, bne_iff_ne, ne_eq, beq_iff_eq, bne_eq_false_iff_eq, beq_eq_false_iff_ne, zia, zib, zic, zid, zda, zbc, zbd, zbe, gt_iff_lt, ge_iff_le] at h') <;> try (exfalso; omega)) | (have q' := trivial; first | refine callX_new (c1) rfl (by decide) ?_ | refine callY_new (c1) rfl ?_ | refine hE _ _ ret_ne ?_ | refine hE _ _ exit_ne ?_)) <;> (try simp (disch := first | omega | decide +kernel) only [q', hb, if_neg hdc, go_sem, zqa, zqb, zqc, zqd, zqe, ↓reduceIte, reduceCtorEq, zqf, zqg, zqh]) <;> clear q') | (refine hN _ ?_ ?_ Wk.kk) | (with_reducible refine And.intro ?_ ?_) | (with_reducible omega) | (exact ok_ints) | (exact cells_ints) | (exact no_mem) | (with_reducible exact plain_ints) | (refine le_maxLen ?_; omega) | (refine List.forall_mem_cons.2 ⟨?_, ?_⟩) | (simp only [go_sem, zqc, zqb, List.mem_cons, List.not_mem_nil, forall_eq]; done)))
        all_goals (first | omega | (refine hN d _ hlt hs.symm (by refine Wk.auto ?_ ?_ <;> simp [extraK, lk, killL, St.kill, wipeO, wipeS, AV.has, AV.hasL, AO.wipe, List.map_set, updSt, insL, dropS, ins, if_neg hdc]); done))
  · obtain rfl : i = v.length := by omega
    have hd2 : d = degD v := hd
    rw [← hd2] at hE
    simp (disch := first | omega | decide +kernel) only [go_sem, zqa, zqb, zqc, zqd, zqe, ↓reduceIte, reduceCtorEq, zqf, zqg, zqh]
    (repeat' (first | ((first | (refine gsel_split (fun q' => ?_) (fun q' => ?_) <;> (have h' := q') <;> (try simp only [decide_eq_true_eq, decide_eq_false_iff_not, zba, zbb, bne_iff_ne, ne_eq, beq_iff_eq, bne_eq_false_iff_eq, beq_eq_false_iff_ne, zia, zib, zic, zid, zda, zbc, zbd, zbe, gt_iff_lt, ge_iff_le] at h') <;> try (exfalso; omega)) | (have q' := trivial; first | refine hE _ _ ret_ne ?_ | refine hE _ _ exit_ne ?_)) <;> (try simp (disch := first | omega | decide +kernel) only [q', go_sem, zqa, zqb, zqc, zqd, zqe, ↓reduceIte, reduceCtorEq, zqf, zqg, zqh]) <;> clear q') | (refine hN _ ?_ ?_ Wk.kk) | (with_reducible refine And.intro ?_ ?_) | (with_reducible omega) | (exact ok_ints) | (exact cells_ints) | (exact no_mem) | (with_reducible exact plain_ints) | (refine le_maxLen ?_; omega) | (refine List.forall_mem_cons.2 ⟨?_, ?_⟩) | (simp only [go_sem, zqc, zqb, List.mem_cons, List.not_mem_nil, forall_eq]; done)))
    all_goals (first | omega)
theorem isZero_ok {v : List Int} (hl : v.length ≤ 64) : Ctr Tryz.prog 28 [.ints v] false (.d (.bool (decide (degD v < 0)))) [] := by
  have c1 := degree_ok hl
  generalize degD v = d at *
  refine Ctr.of (n := 6) (rs := [.tmp 2]) Tryz.func28 rfl rfl Tryz.ntmps28 rfl rfl (by kernel_rfl) Tryz.checked.mixed ?_
  simp (disch := first | omega | decide +kernel) only [D.ints, go_sem, zqa, zqb, zqc, zqd, zqe, ↓reduceIte, reduceCtorEq, zqf, zqg, zqh]
  (repeat' (first | ((first | (refine gsel_split (fun q' => ?_) (fun q' => ?_) <;> (have h' := q') <;> (try simp only [decide_eq_true_eq, decide_eq_false_iff_not, zba, zbb, bne_iff_ne, ne_eq, beq_iff_eq, bne_eq_false_iff_eq, beq_eq_false_iff_ne, zia, zib, zic, zid, zda, zbc, zbd, zbe, gt_iff_lt, ge_iff_le] at h') <;> try (exfalso; omega)) | (have q' := trivial; first | refine callX_new (c1) rfl (by decide) ?_ | refine callY_new (c1) rfl ?_ | refine hE _ _ ret_ne ?_ | refine hE _ _ exit_ne ?_)) <;> (try simp (disch := first | omega | decide +kernel) only [q', D.ints, go_sem, zqa, zqb, zqc, zqd, zqe, ↓reduceIte, reduceCtorEq, zqf, zqg, zqh]) <;> clear q') | (refine hN _ ?_ ?_ Wk.kk) | (with_reducible refine And.intro ?_ ?_) | (with_reducible omega) | (exact ok_ints) | (exact cells_ints) | (exact no_mem) | (with_reducible exact plain_ints) | (refine le_maxLen ?_; omega) | (refine List.forall_mem_cons.2 ⟨?_, ?_⟩) | (simp only [go_sem, zqc, zqb, List.mem_cons, List.not_mem_nil, forall_eq]; done)))
  all_goals (first | omega)
end Abs.Y

namespace Abs.Y
open Go Go.Proofs Abs
open Nat renaming reduceEqDiff → zqa, reduceLT → zqb, reduceAdd → zqc, reduceMul → zqd, reduceSub → zqe, reduceLeDiff → zqf, reduceSubDiff → zqg, reduceBEq → zqh
open Bool renaming not_eq_true' → zba, not_eq_false' → zbb, and_eq_true → zbc, or_eq_true → zbd, or_eq_false_iff → zbe
open Int renaming ofNat_lt → zia, ofNat_le → zib, not_lt → zic, not_le → zid
open Decidable renaming not_not → zda
set_option maxRecDepth 100000

def sumR (k : Nat) (f : Nat → Int) : Int := (List.range k).foldl (fun s i => s + f i) 0
theorem sumR_succ (k : Nat) (f : Nat → Int) : sumR (k + 1) f = sumR k f + f k := by
  rw [sumR, List.range_succ, List.foldl_append]; rfl
theorem sumR_congr {k : Nat} {f g : Nat → Int} (h : ∀ i, i < k → f i = g i) : sumR k f = sumR k g := by
  induction k with
  | zero => rfl
  | succ k ih => rw [sumR_succ, sumR_succ, ih fun i hi => h i (by omega), h k (by omega)]
theorem sumR_mul (k : Nat) (c : Int) (f : Nat → Int) : sumR k (fun i => c * f i) = c * sumR k f := by
  induction k with
  | zero => simp [sumR]
  | succ k ih => rw [sumR_succ, sumR_succ, ih]; grind
theorem st_fold {p : Int} (hp : 0 < p) {n : Nat} (g : Nat → Nat) (h : Nat → Int) {v : List Int} (hv : Vec p n v) (k j : Nat) (hj : j < n) :
    ((List.range k).foldl (fun v i => stP p v (g i) (h i)) v).getD j 0 = (v.getD j 0 + sumR k (fun i => if g i = j then h i else 0)) % p := by
  induction k with
  | zero =>
    have := hv.2 j
    simp only [List.range_zero, List.foldl_nil, sumR, Int.add_zero]
    rw [Int.emod_eq_of_lt this.1 this.2]
  | succ k ih =>
    rw [List.range_succ, List.foldl_append, sumR_succ]
    simp only [List.foldl_cons, List.foldl_nil]
    have hw : Vec p n ((List.range k).foldl (fun v i => stP p v (g i) (h i)) v) := fold_vec (fun v m h => h.st hp _ _) _ hv
    generalize (List.range k).foldl (fun v i => stP p v (g i) (h i)) v = w at *
    unfold stP
    rw [getD_set]
    by_cases e : g k = j
    · rw [if_pos ⟨e, by rw [hw.1]; exact hj⟩, if_pos e, e, ih, Int.emod_add_emod]
      congr 1; omega
    · rw [if_neg (fun h => e h.1), if_neg e, ih, Int.add_zero]
def shD (b : List Int) (m j : Nat) : Int := sumR b.length fun i => if m ||| i = j then b.getD i 0 else 0
theorem row_get {p : Int} (hp : 0 < p) {n : Nat} {v b : List Int} (hv : Vec p n v) (m : Nat) (c : Int) (j : Nat) (hj : j < n) : (rowD p b m c v).getD j 0 = (v.getD j 0 + c * shD b m j) % p := by
  unfold rowD
  rw [st_fold hp (fun i => m ||| i) (fun i => c * b.getD i 0) hv b.length j hj]
  congr 2
  unfold shD
  rw [← sumR_mul]
  exact sumR_congr fun i _ => by split <;> simp
theorem mul_get {p : Int} (hp : 0 < p) {n : Nat} {a b : List Int} (j : Nat) (hj : j < n) : (mulD p n a b).getD j 0 = sumR a.length (fun m => a.getD m 0 * shD b m j) % p := by
  have key : ∀ k, ((List.range k).foldl (fun v m => rowD p b m (a.getD m 0) v) (List.replicate n 0)).getD j 0 = sumR k (fun m => a.getD m 0 * shD b m j) % p := by
    intro k
    induction k with
    | zero =>
      show (List.replicate n (0 : Int)).getD j 0 = _
      rw [getD_rep]; simp [sumR]
    | succ k ih =>
      rw [List.range_succ, List.foldl_append, sumR_succ]
      simp only [List.foldl_cons, List.foldl_nil]
      have hw : Vec p n ((List.range k).foldl (fun v m => rowD p b m (a.getD m 0) v) (List.replicate n 0)) := fold_vec (fun v m h => h.rowD hp b m _) _ (Vec.zero hp n)
      rw [row_get hp hw _ _ j hj, ih, Int.emod_add_emod]
  exact key a.length
theorem mul_zero {p : Int} (hp : 0 < p) {n : Nat} (b : List Int) : mulD p n (List.replicate n 0) b = List.replicate n 0 := by
  have h1 := Vec.mulD (p := p) hp n (List.replicate n 0) b
  refine vec_ext (p := p) (n := n) h1.1 (by simp) fun j => ?_
  rw [getD_rep]
  by_cases hj : j < n
  · rw [mul_get hp j hj, sumR_congr (g := fun _ => 0 * 0) fun i _ => by rw [getD_rep]; simp]
    rw [sumR_mul]; simp
  · exact getD_oob (by rw [h1.1]; omega)

def kG (m : Nat) : Nat := cnt m * 64 + m
theorem kG_inj {i j : Nat} (hi : i < 64) (hj : j < 64) (h : kG i = kG j) : i = j := by unfold kG at h; omega
theorem kG_lt {i j : Nat} (hi : i < 64) (hj : j < 64) : kG i < kG j ↔ cnt i < cnt j ∨ (cnt i = cnt j ∧ i < j) := by unfold kG; omega
def ldI (v : List Int) : Int := (List.range v.length).foldl (fun o m => if v.getD m 0 ≠ 0 ∧ (o < 0 ∨ kG o.toNat < kG m) then (m : Int) else o) (-1)
def ldG (v : List Int) : Nat := (ldI v).toNat
theorem ldI_inv (v : List Int) (k : Nat) : let o := (List.range k).foldl (fun o m => if v.getD m 0 ≠ 0 ∧ (o < 0 ∨ kG o.toNat < kG m) then (m : Int) else o) (-1)
    (o = -1 ∧ ∀ i, i < k → v.getD i 0 = 0) ∨ ∃ m : Nat, o = m ∧ m < k ∧ v.getD m 0 ≠ 0 ∧ ∀ i, i < k → v.getD i 0 ≠ 0 → kG i ≤ kG m := by
  induction k with
  | zero => exact .inl ⟨rfl, fun i hi => by omega⟩
  | succ k ih =>
    rw [List.range_succ, List.foldl_append]
    simp only [List.foldl_cons, List.foldl_nil] at ih ⊢
    generalize (List.range k).foldl (fun o m => if v.getD m 0 ≠ 0 ∧ (o < 0 ∨ kG o.toNat < kG m) then (m : Int) else o) (-1) = o at *
    rcases ih with ⟨rfl, h⟩ | ⟨m, rfl, hm, hv, h⟩
    · by_cases e : v.getD k 0 = 0
      · rw [if_neg (fun h => h.1 e)]
        refine .inl ⟨rfl, fun i hi => ?_⟩
        by_cases e2 : i = k
        · rw [e2]; exact e
        · exact h i (by omega)
      · rw [if_pos ⟨e, .inl (by decide)⟩]
        refine .inr ⟨k, rfl, by omega, e, fun i hi h2 => ?_⟩
        by_cases e2 : i = k
        · rw [e2]; exact Nat.le_refl _
        · exact absurd (h i (by omega)) h2
    · by_cases e : v.getD k 0 ≠ 0 ∧ ((m : Int) < 0 ∨ kG (m : Int).toNat < kG k)
      · rw [if_pos e]
        have h3 : kG m < kG k := by
          rcases e.2 with h | h
          · omega
          · simpa using h
        refine .inr ⟨k, rfl, by omega, e.1, fun i hi h2 => ?_⟩
        by_cases e2 : i = k
        · rw [e2]; exact Nat.le_refl _
        · exact Nat.le_trans (h i (by omega) h2) (Nat.le_of_lt h3)
      · rw [if_neg e]
        refine .inr ⟨m, rfl, by omega, hv, fun i hi h2 => ?_⟩
        by_cases e2 : i = k
        · subst e2
          have : ¬ kG m < kG i := fun h4 => e ⟨h2, .inr (by simpa using h4)⟩
          omega
        · exact h i (by omega) h2
theorem ldI_or (v : List Int) : (ldI v = -1 ∧ ∀ i, v.getD i 0 = 0) ∨ (ldI v = (ldG v : Nat) ∧ ldG v < v.length ∧ v.getD (ldG v) 0 ≠ 0 ∧ ∀ i, v.getD i 0 ≠ 0 → kG i ≤ kG (ldG v)) := by
  rcases ldI_inv v v.length with ⟨h1, h2⟩ | ⟨m, h1, h2, h3, h4⟩
  · refine .inl ⟨h1, fun i => ?_⟩
    by_cases hi : i < v.length
    · exact h2 i hi
    · exact getD_oob (by omega)
  · have e : ldI v = (m : Int) := h1
    have e2 : ldG v = m := by unfold ldG; rw [e]; simp
    rw [e2]
    exact .inr ⟨e, h2, h3, fun i hi => h4 i (lt_of_get hi) hi⟩
theorem ldI_neg {v : List Int} : ldI v < 0 ↔ ∀ i, v.getD i 0 = 0 := by
  rcases ldI_or v with ⟨h1, h2⟩ | ⟨h1, h2, h3, h4⟩
  · exact ⟨fun _ => h2, fun _ => by rw [h1]; decide⟩
  · exact ⟨fun h => by omega, fun h => absurd (h _) h3⟩
theorem lds_G {n : Nat} (hn : n ≤ 64) : Lds kG n ldG := by
  refine ⟨fun i j hi hj h => kG_inj (by omega) (by omega) h, fun v hv i hi => ?_⟩
  rcases ldI_or v with ⟨_, h2⟩ | ⟨_, _, h3, h4⟩
  · exact absurd (h2 i) hi
  · exact ⟨h3, h4 i hi⟩
end Abs.Y
