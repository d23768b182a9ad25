/- What functions of this program compute, as contracts over plain data, with what the proofs need of them. No condition. -/
import Derived.Test.YtcpflbfcglcjfaaG1
import Derived.Test.YtcpflbfcglcjfaaAbsRow
set_option linter.all false
namespace Abs.Y
open Go Go.Proofs Abs
open Nat renaming reduceEqDiff → zqa, reduceLT → zqb, reduceAdd → zqc, reduceMul → zqd, reduceSub → zqe, reduceLeDiff → zqf, reduceSubDiff → zqg, reduceBEq → zqh
open Bool renaming not_eq_true' → zba, not_eq_false' → zbb, and_eq_true → zbc, or_eq_true → zbd, or_eq_false_iff → zbe
open Int renaming ofNat_lt → zia, ofNat_le → zib, not_lt → zic, not_le → zid
open Decidable renaming not_not → zda
set_option maxRecDepth 100000

def idxI (p : Int → Bool) (xs : List Int) : Int := match xs.findIdx? p with | some i => (i : Nat) | none => -1
theorem idxI_some {p : Int → Bool} {xs : List Int} {i : Nat} (h : i < xs.length) (hp : p (xs.getD i 0) = true) (hn : ∀ j, j < i → p (xs.getD j 0) = false) : idxI p xs = i := by
  have : xs.findIdx? p = some i := by
    rw [List.findIdx?_eq_some_iff_getElem]
    refine ⟨h, by simpa [List.getD_eq_getElem?_getD, h] using hp, fun j hj => ?_⟩
    have h2 : j < xs.length := by omega
    simpa [List.getD_eq_getElem?_getD, h2] using hn j hj
  rw [idxI, this]
theorem idxI_none {p : Int → Bool} {xs : List Int} (hn : ∀ j, j < xs.length → p (xs.getD j 0) = false) : idxI p xs = -1 := by
  have : xs.findIdx? p = none := by
    rw [List.findIdx?_eq_none_iff]
    intro x hx
    obtain ⟨j, hj, rfl⟩ := List.getElem_of_mem hx
    have := hn j hj
    simpa [List.getD_eq_getElem?_getD, hj] using this
  rw [idxI, this]
theorem idxI_ge {p : Int → Bool} {xs : List Int} : decide (0 ≤ idxI p xs) = xs.any p := by
  unfold idxI
  cases h : xs.findIdx? p with
  | none =>
    rw [List.findIdx?_eq_none_iff] at h
    have : xs.any p = false := by rw [List.any_eq_false]; exact fun x hx => by simp [h x hx]
    rw [this]; rfl
  | some i =>
    obtain ⟨h1, h2, _⟩ := List.findIdx?_eq_some_iff_getElem.1 h
    have : xs.any p = true := List.any_eq_true.2 ⟨_, List.getElem_mem h1, h2⟩
    rw [this]; simp
theorem indexFunc1_ok (xs : List Int) (g : FuncId) (c : D) (p : Int → Bool) (hl : xs.length ≤ 4294967296) (hp : ∀ x, Ctr Try.prog g [.int .i64 x, c] false (.d (.bool (p x))) []) :
    Ctr Try.prog 224 [.ints xs, .fn (.func g) [] [c]] false (.d (.int .i64 (idxI p xs))) [] := by
  refine Ctr.of (n := 19) (rs := [.tmp 4]) Try.func224 rfl rfl Try.ntmps224 rfl rfl (by kernel_rfl) Try.checked.mixed ?_
  simp (disch := first | omega | decide +kernel) only [D.ints, go_sem, zqa, zqb, zqc, zqd, zqe, ↓reduceIte, reduceCtorEq, zqf, zqg, zqh]
  refine Ok.loopC [18, 17, 16, 15, 14, 13, 12, 11, 10, 9, 8, 6, 5, 4, 3, 2] (fun i => [(8, .d (.int .i64 (i : Nat)))]) xs.length (fun i => ∀ j, j < i → p (xs.getD j 0) = false) (by simp) (Wk.kk) ?_
  intro R i hN hE hi hI
  simp (disch := first | omega | decide +kernel) only [go_sem, zqa, zqb, zqc, zqd, zqe, ↓reduceIte, reduceCtorEq, zqf, zqg, zqh]
  (repeat' (first | ((first | (refine gsel_split (fun q' => ?_) (fun q' => ?_) <;> (have h' := q') <;> (try simp only [decide_eq_true_eq, decide_eq_false_iff_not, zba, zbb, bne_iff_ne, ne_eq, beq_iff_eq, bne_eq_false_iff_eq, beq_eq_false_iff_ne, zia, zib, zic, zid, zda, zbc, zbd, zbe, gt_iff_lt, ge_iff_le] at h')) | (have q' := trivial; first | refine callX_new (hp _) rfl (by decide) ?_ | refine callY_new (hp _) rfl ?_ | refine hE _ _ ret_ne ?_ | refine hE _ _ exit_ne ?_)) <;> (try simp (disch := first | omega | decide +kernel) only [q', go_sem, zqa, zqb, zqc, zqd, zqe, ↓reduceIte, reduceCtorEq, zqf, zqg, zqh]) <;> clear q') | (refine hN _ ?_ ?_ Wk.kk) | (with_reducible refine And.intro ?_ ?_) | (with_reducible omega) | (exact ok_ints) | (exact cells_ints) | (exact no_mem) | (with_reducible exact plain_ints) | (refine le_maxLen ?_; omega) | (refine List.forall_mem_cons.2 ⟨?_, ?_⟩) | (simp only [go_sem, zqc, zqb, List.mem_cons, List.not_mem_nil, forall_eq]; done)))
  · rename_i h1
    rw [idxI_some h1 h' hI]
  · exact all_succ hI h'
  · rw [idxI_none fun j hj => hI j (by omega)]
theorem containsFunc1_ok (xs : List Int) (g : FuncId) (c : D) (p : Int → Bool) (hl : xs.length ≤ 4294967296) (hp : ∀ x, Ctr Try.prog g [.int .i64 x, c] false (.d (.bool (p x))) []) :
    Ctr Try.prog 162 [.ints xs, .fn (.func g) [] [c]] false (.d (.bool (xs.any p))) [] := by
  refine Ctr.of (n := 9) (rs := [.tmp 4]) Try.func162 rfl rfl Try.ntmps162 rfl rfl (by kernel_rfl) Try.checked.mixed ?_
  simp (disch := first | omega | decide +kernel) only [D.ints, go_sem, zqa, zqb, zqc, zqd, zqe, ↓reduceIte, reduceCtorEq, zqf, zqg, zqh]
  (repeat' (first | ((first | (refine gsel_split (fun q' => ?_) (fun q' => ?_) <;> (have h' := q') <;> (try simp only [decide_eq_true_eq, decide_eq_false_iff_not, zba, zbb, bne_iff_ne, ne_eq, beq_iff_eq, bne_eq_false_iff_eq, beq_eq_false_iff_ne, zia, zib, zic, zid, zda, zbc, zbd, zbe, gt_iff_lt, ge_iff_le] at h')) | (have q' := trivial; first | refine callX_new (indexFunc1_ok xs g c p hl hp) rfl (by decide) ?_ | refine callY_new (indexFunc1_ok xs g c p hl hp) rfl ?_ | refine hE _ _ ret_ne ?_ | refine hE _ _ exit_ne ?_)) <;> (try simp (disch := first | omega | decide +kernel) only [q', go_sem, zqa, zqb, zqc, zqd, zqe, ↓reduceIte, reduceCtorEq, zqf, zqg, zqh]) <;> clear q') | (refine hN _ ?_ ?_ Wk.kk) | (with_reducible refine And.intro ?_ ?_) | (with_reducible omega) | (exact ok_ints) | (exact cells_ints) | (exact no_mem) | (with_reducible exact plain_ints) | (refine le_maxLen ?_; omega) | (refine List.forall_mem_cons.2 ⟨?_, ?_⟩) | (simp only [go_sem, zqc, zqb, List.mem_cons, List.not_mem_nil, forall_eq]; done)))
  rw [← idxI_ge]
def subI (a b : List Int) : Bool := !(a.any fun x => !(b.any (· == x)))
theorem l1Same_ok (a b : List Int) (hl : a.length ≤ 4294967296) : Ctr Try.prog 184 [.ints a, .ints b] false (.d (.bool (decide (a = b)))) [] := by
  refine Ctr.of (n := 26) (rs := [.tmp 4]) Try.func184 rfl rfl Try.ntmps184 rfl rfl (by kernel_rfl) Try.checked.mixed ?_
  simp (disch := first | omega | decide +kernel) only [D.ints, go_sem, zqa, zqb, zqc, zqd, zqe, ↓reduceIte, reduceCtorEq, zqf, zqg, zqh]
  (repeat' (first | ((first | (refine gsel_split (fun q' => ?_) (fun q' => ?_) <;> (have h' := q') <;> (try simp only [decide_eq_true_eq, decide_eq_false_iff_not, zba, zbb, bne_iff_ne, ne_eq, beq_iff_eq, bne_eq_false_iff_eq, beq_eq_false_iff_ne, zia, zib, zic, zid, zda, zbc, zbd, zbe, gt_iff_lt, ge_iff_le] at h')) | (have q' := trivial; first | refine hE _ _ ret_ne ?_ | refine hE _ _ exit_ne ?_)) <;> (try simp (disch := first | omega | decide +kernel) only [q', go_sem, zqa, zqb, zqc, zqd, zqe, ↓reduceIte, reduceCtorEq, zqf, zqg, zqh]) <;> clear q') | (refine hN _ ?_ ?_ Wk.kk) | (with_reducible refine And.intro ?_ ?_) | (with_reducible omega) | (exact ok_ints) | (exact cells_ints) | (exact no_mem) | (with_reducible exact plain_ints) | (refine le_maxLen ?_; omega) | (refine List.forall_mem_cons.2 ⟨?_, ?_⟩) | (simp only [go_sem, zqc, zqb, List.mem_cons, List.not_mem_nil, forall_eq]; done)))
  · have : ¬ a = b := by rintro rfl; simp at h'
    simp [this, D.plain]
  refine Ok.loopC [25, 24, 23, 22, 21, 20, 19, 18, 17, 16, 15, 14, 13, 12, 11, 10, 9, 8, 7, 6, 5, 4, 3, 2] (fun i => [(5, .d (.int .i64 (i : Nat)))]) a.length (fun i => ∀ j, j < i → a.getD j 0 = b.getD j 0) (by simp) (Wk.kk) ?_
  intro R i hN hE hi hI
  simp (disch := first | omega | decide +kernel) only [go_sem, zqa, zqb, zqc, zqd, zqe, ↓reduceIte, reduceCtorEq, zqf, zqg, zqh]
  (repeat' (first | ((first | (refine gsel_split (fun q' => ?_) (fun q' => ?_) <;> (have h' := q') <;> (try simp only [decide_eq_true_eq, decide_eq_false_iff_not, zba, zbb, bne_iff_ne, ne_eq, beq_iff_eq, bne_eq_false_iff_eq, beq_eq_false_iff_ne, zia, zib, zic, zid, zda, zbc, zbd, zbe, gt_iff_lt, ge_iff_le] at h')) | (have q' := trivial; first | refine hE _ _ ret_ne ?_ | refine hE _ _ exit_ne ?_)) <;> (try simp (disch := first | omega | decide +kernel) only [q', go_sem, zqa, zqb, zqc, zqd, zqe, ↓reduceIte, reduceCtorEq, zqf, zqg, zqh]) <;> clear q') | (refine hN _ ?_ ?_ Wk.kk) | (with_reducible refine And.intro ?_ ?_) | (with_reducible omega) | (exact ok_ints) | (exact cells_ints) | (exact no_mem) | (with_reducible exact plain_ints) | (refine le_maxLen ?_; omega) | (refine List.forall_mem_cons.2 ⟨?_, ?_⟩) | (simp only [go_sem, zqc, zqb, List.mem_cons, List.not_mem_nil, forall_eq]; done)))
  · rename_i h1 h2
    have : ¬ a = b := by rintro rfl; exact h' rfl
    simp [this, D.plain]
  · exact all_succ hI h'
  · rename_i h1
    have : a = b := ext_getDz 0 (by omega) fun j hj => hI j (by omega)
    simp [this, D.plain]
end Abs.Y

namespace Abs

def szL {α : Type} (f : α → Int → Int) : List α → Int → Int
  | [], left => left
  | x :: r, left => if f x left < 0 then -1 else szL f r (f x left)
def szS {α : Type} (f : α → Int → Int) (a : List α) (left : Int) : Int := if left - a.length < 0 then -1 else szL f a (left - a.length)
def szI (a : List Int) (left : Int) : Int := if left - a.length < 0 then -1 else left - a.length
def SzF {α : Type} (f : α → Int → Int) : Prop := ∀ x left, 0 ≤ left → f x left = -1 ∨ (0 ≤ f x left ∧ f x left ≤ left)
end Abs
