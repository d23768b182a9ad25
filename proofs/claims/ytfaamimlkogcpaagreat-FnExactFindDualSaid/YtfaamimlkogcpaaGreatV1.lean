/- What functions of this program compute, as contracts over plain data, with what the proofs need of them. No condition. -/
import Derived.Test.YtfaamimlkogcpaaGreatA1
set_option linter.all false
namespace Abs.Y
open Go Go.Proofs Abs
open Nat renaming reduceEqDiff → zqa, reduceLT → zqb, reduceAdd → zqc, reduceMul → zqd, reduceSub → zqe, reduceLeDiff → zqf, reduceSubDiff → zqg, reduceBEq → zqh
open Bool renaming not_eq_true' → zba, not_eq_false' → zbb, and_eq_true → zbc, or_eq_true → zbd, or_eq_false_iff → zbe
open Int renaming ofNat_lt → zia, ofNat_le → zib, not_lt → zic, not_le → zid
open Decidable renaming not_not → zda
set_option maxRecDepth 100000

structure Lds (κ : Nat → Nat) (n : Nat) (ld : List Int → Nat) : Prop where
  inj : ∀ i j, i < n → j < n → κ i = κ j → i = j
  top : ∀ v : List Int, v.length = n → ∀ i, v.getD i 0 ≠ 0 → v.getD (ld v) 0 ≠ 0 ∧ κ i ≤ κ (ld v)
theorem lt_of_get {v : List Int} {i : Nat} (h : v.getD i 0 ≠ 0) : i < v.length := by
  by_cases hi : i < v.length
  · exact hi
  · exact absurd (getD_oob (by omega)) h
theorem Lds.eq {κ : Nat → Nat} {n : Nat} {ld : List Int → Nat} (h : Lds κ n ld) {v : List Int} (hv : v.length = n) {m : Nat} (hm : v.getD m 0 ≠ 0) (hle : ∀ i, v.getD i 0 ≠ 0 → κ i ≤ κ m) : ld v = m := by
  obtain ⟨h1, h2⟩ := h.top v hv m hm
  have h3 := hle _ h1
  have := lt_of_get h1
  have := lt_of_get hm
  exact h.inj _ _ (by omega) (by omega) (by omega)
structure Ech (p : Int) (n : Nat) (ld : List Int → Nat) (R : List (List Int)) : Prop where
  vec : AllV p n R
  one : ∀ r ∈ R, r.getD (ld r) 0 = 1
  pw : R.Pairwise fun r s => s.getD (ld r) 0 = 0 ∧ r.getD (ld s) 0 = 0
theorem Ech.tri {p : Int} {n : Nat} {ld : List Int → Nat} {R : List (List Int)} (h : Ech p n ld R) : Tri ld R := ⟨h.one, h.pw.imp fun h => h.1⟩
theorem Ech.nil {p : Int} {n : Nat} {ld : List Int → Nat} : Ech p n ld [] := ⟨fun _ h => (by cases h), fun _ h => (by cases h), .nil⟩
theorem Ech.perm {p : Int} {n : Nat} {ld : List Int → Nat} {R R' : List (List Int)} (h : Ech p n ld R) (e : R.Perm R') : Ech p n ld R' :=
  ⟨fun r hr => h.vec r (e.mem_iff.2 hr), fun r hr => h.one r (e.mem_iff.2 hr), (e.pairwise_iff fun h => ⟨h.2, h.1⟩).1 h.pw⟩
def clr (p : Int) (m : Nat) (rest : List Int) (r : List Int) : List Int := addD p (p - r.getD m 0) r rest
def invN (p c : Int) : Nat := if c = 1 then 1 else if p = 3 then 2 else if c = 2 then 3 else if c = 3 then 2 else 4
theorem invN_ok {p c : Int} (hp5 : p = 2 ∨ p = 3 ∨ p = 5) (hc : 0 < c ∧ c < p) : 1 ≤ invN p c ∧ (invN p c : Int) < p ∧ c * (invN p c : Int) % p = 1 ∧ ∀ j : Nat, 1 ≤ j → j < invN p c → ¬ c * (j : Int) % p = 1 := by
  have key : ∀ j : Nat, j < 4 → j = 0 ∨ j = 1 ∨ j = 2 ∨ j = 3 := by omega
  have : (p = 2 ∧ c = 1) ∨ (p = 3 ∧ c = 1) ∨ (p = 3 ∧ c = 2) ∨ (p = 5 ∧ c = 1) ∨ (p = 5 ∧ c = 2) ∨ (p = 5 ∧ c = 3) ∨ (p = 5 ∧ c = 4) := by omega
  rcases this with ⟨rfl, rfl⟩ | ⟨rfl, rfl⟩ | ⟨rfl, rfl⟩ | ⟨rfl, rfl⟩ | ⟨rfl, rfl⟩ | ⟨rfl, rfl⟩ | ⟨rfl, rfl⟩ <;>
    refine ⟨by decide, by decide, by decide, fun j h1 h2 => ?_⟩ <;>
    rcases key j (Nat.lt_of_lt_of_le h2 (by decide)) with rfl | rfl | rfl | rfl <;> first | (exact absurd h1 (by decide)) | (exact absurd h2 (by decide)) | decide
section
variable {p : Int} {n : Nat} {κ : Nat → Nat} {ld : List Int → Nat} (hp : 1 < p) (hL : Lds κ n ld)
include hp
include hL
theorem Ech.add {R : List (List Int)} {rest : List Int} {k : Int} (h : Ech p n ld R) (hv : Vec p n rest) (h0 : ∀ r ∈ R, rest.getD (ld r) 0 = 0) (hnz : rest.getD (ld rest) 0 ≠ 0) (hk : k * rest.getD (ld rest) 0 % p = 1) :
    let row := addD p k (List.replicate n 0) rest
    Vec p n row ∧ ld row = ld rest ∧ (∀ r ∈ R, ld (clr p (ld rest) row r) = ld r) ∧ Ech p n ld (R.map (clr p (ld rest) row) ++ [row]) := by
  intro row
  have hl := hv.1
  have hrow : Vec p n row := Vec.addD (by omega) (a := List.replicate n 0) (by simp) hl
  have hg : ∀ i, row.getD i 0 = k * rest.getD i 0 % p := fun i => by
    show (addD p k (List.replicate n 0) rest).getD i 0 = _
    rw [addD_get (by simp; omega), getD_rep, Int.zero_add]
  have hr0 : ∀ i, row.getD i 0 ≠ 0 → rest.getD i 0 ≠ 0 := fun i h1 h2 => h1 (by rw [hg, h2]; simp)
  have hone : row.getD (ld rest) 0 = 1 := by rw [hg, hk]
  have htop : ∀ i, row.getD i 0 ≠ 0 → κ i ≤ κ (ld rest) := fun i hi => (hL.top rest hl i (hr0 i hi)).2
  have hld : ld row = ld rest := hL.eq hrow.1 (by rw [hone]; decide) htop
  have hz : ∀ r ∈ R, row.getD (ld r) 0 = 0 := fun r hr => by rw [hg, h0 r hr]; simp
  have hcg : ∀ r ∈ R, ∀ i, (clr p (ld rest) row r).getD i 0 = (r.getD i 0 + (p - r.getD (ld rest) 0) * row.getD i 0) % p := fun r hr i => by
    have := (h.vec r hr).1
    unfold clr
    rw [addD_get (by have := hrow.1; omega)]
  have hcv : ∀ r ∈ R, Vec p n (clr p (ld rest) row r) := fun r hr => Vec.addD (by omega) (h.vec r hr).1 hrow.1
  have hc1 : ∀ r ∈ R, ∀ s ∈ R, (clr p (ld rest) row r).getD (ld s) 0 = r.getD (ld s) 0 := fun r hr s hs => by
    have := (h.vec r hr).2 (ld s)
    rw [hcg r hr, hz s hs, Int.mul_zero, Int.add_zero, Int.emod_eq_of_lt this.1 this.2]
  have hcl : ∀ r ∈ R, (clr p (ld rest) row r).getD (ld rest) 0 = 0 := fun r hr => by
    rw [hcg r hr, hone, Int.mul_one, emod_eq_of (y := 0) 1 (by omega)]; simp
  have hcd : ∀ r ∈ R, ld (clr p (ld rest) row r) = ld r := fun r hr => by
    have hv1 := h.vec r hr
    refine hL.eq (hcv r hr).1 (by rw [hc1 r hr r hr, h.one r hr]; decide) fun i hi => ?_
    by_cases hri : r.getD i 0 = 0
    · rw [hcg r hr, hri, Int.zero_add] at hi
      by_cases hm : r.getD (ld rest) 0 = 0
      · rw [hm, Int.sub_zero, Int.mul_emod_right] at hi; exact absurd rfl hi
      · have h1 : row.getD i 0 ≠ 0 := fun h => hi (by rw [h]; simp)
        exact Nat.le_trans (htop i h1) (hL.top r hv1.1 _ hm).2
    · exact (hL.top r hv1.1 i hri).2
  refine ⟨hrow, hld, hcd, ⟨fun x hx => ?_, fun x hx => ?_, ?_⟩⟩
  · rcases List.mem_append.1 hx with h1 | h1
    · obtain ⟨r, hr, rfl⟩ := List.mem_map.1 h1; exact hcv r hr
    · rw [List.mem_singleton.1 h1]; exact hrow
  · rcases List.mem_append.1 hx with h1 | h1
    · obtain ⟨r, hr, rfl⟩ := List.mem_map.1 h1
      rw [hcd r hr, hc1 r hr r hr]; exact h.one r hr
    · rw [List.mem_singleton.1 h1, hld]; exact hone
  · rw [List.pairwise_append]
    refine ⟨?_, List.pairwise_singleton _ _, fun a ha b hb => ?_⟩
    · rw [List.pairwise_map]
      refine List.Pairwise.imp_of_mem (fun {a b} ha hb hab => ?_) h.pw
      rw [hcd a ha, hcd b hb, hc1 b hb a ha, hc1 a ha b hb]; exact hab
    · obtain ⟨r, hr, rfl⟩ := List.mem_map.1 ha
      rw [List.mem_singleton.1 hb, hcd r hr, hld]
      exact ⟨hz r hr, hcl r hr⟩
end
section
variable {p : Int} {n : Nat} (hp : 0 < p)
include hp
theorem sp_clr {R : List (List Int)} {row : List Int} (m : Nat) (hR : AllV p n R) (hrow : Vec p n row) : SpEq p n (R.map (clr p m row) ++ [row]) (R ++ [row]) := by
  have hA : AllV p n (R ++ [row]) := fun x hx => by
    rcases List.mem_append.1 hx with h | h
    · exact hR x h
    · rw [List.mem_singleton.1 h]; exact hrow
  have hB : AllV p n (R.map (clr p m row) ++ [row]) := fun x hx => by
    rcases List.mem_append.1 hx with h | h
    · obtain ⟨r, hr, rfl⟩ := List.mem_map.1 h; exact Vec.addD hp (hR r hr).1 hrow.1
    · rw [List.mem_singleton.1 h]; exact hrow
  have s1 : Sp p n (R ++ [row]) row := Sp.self hp hA (List.mem_append.2 (.inr (List.mem_singleton.2 rfl)))
  have s2 : Sp p n (R.map (clr p m row) ++ [row]) row := Sp.self hp hB (List.mem_append.2 (.inr (List.mem_singleton.2 rfl)))
  intro v
  constructor
  · refine Sp.trans hp hA fun x hx => ?_
    rcases List.mem_append.1 hx with h | h
    · obtain ⟨r, hr, rfl⟩ := List.mem_map.1 h
      exact Sp.plus hp hA _ (Sp.self hp hA (List.mem_append.2 (.inl hr))) s1
    · rw [List.mem_singleton.1 h]; exact s1
  · refine Sp.trans hp hB fun x hx => ?_
    rcases List.mem_append.1 hx with h | h
    · have h1 := Sp.plus hp hB (-(p - x.getD m 0)) (Sp.self hp hB (List.mem_append.2 (.inl (List.mem_map_of_mem (f := clr p m row) h)))) s2
      unfold clr at h1
      rwa [addD_same (n := n) (hR x h).1 hrow.1, addD_mul 0 (by omega) (hR x h) hrow.1] at h1
    · rw [List.mem_singleton.1 h]; exact s2
theorem SpEq.perm {R R' : List (List Int)} (hR : AllV p n R) (e : R.Perm R') : SpEq p n R R' := by
  have hR' : AllV p n R' := fun r hr => hR r (e.mem_iff.2 hr)
  intro v
  exact ⟨Sp.trans hp hR' fun r hr => Sp.self hp hR' (e.mem_iff.1 hr), Sp.trans hp hR fun r hr => Sp.self hp hR (e.mem_iff.2 hr)⟩
end
end Abs.Y

namespace Abs.Y
open Go Go.Proofs Abs
open Nat renaming reduceEqDiff → zqa, reduceLT → zqb, reduceAdd → zqc, reduceMul → zqd, reduceSub → zqe, reduceLeDiff → zqf, reduceSubDiff → zqg, reduceBEq → zqh
open Bool renaming not_eq_true' → zba, not_eq_false' → zbb, and_eq_true → zbc, or_eq_true → zbd, or_eq_false_iff → zbe
open Int renaming ofNat_lt → zia, ofNat_le → zib, not_lt → zic, not_le → zid
open Decidable renaming not_not → zda
set_option maxRecDepth 100000

def idxI (p : Int → Bool) (xs : List Int) : Int := match xs.findIdx? p with | some i => (i : Nat) | none => -1
def subI (a b : List Int) : Bool := !(a.any fun x => !(b.any (· == x)))
end Abs.Y

namespace Abs.Y
open Go Go.Proofs Abs
open Nat renaming reduceEqDiff → zqa, reduceLT → zqb, reduceAdd → zqc, reduceMul → zqd, reduceSub → zqe, reduceLeDiff → zqf, reduceSubDiff → zqg, reduceBEq → zqh
open Bool renaming not_eq_true' → zba, not_eq_false' → zbb, and_eq_true → zbc, or_eq_true → zbd, or_eq_false_iff → zbe
open Int renaming ofNat_lt → zia, ofNat_le → zib, not_lt → zic, not_le → zid
open Decidable renaming not_not → zda
set_option maxRecDepth 100000

def okCnf (v : Int) (cs : List (List Int)) : Bool := (okVars v && decide (cs.length ≤ 60)) && cs.all (okClause v)
theorem okCnf_bad {v : Int} {cs : List (List Int)} {i : Nat} (h : i < cs.length) (h' : okClause v (cs.getD i []) = false) : okCnf v cs = false := by
  rw [okCnf, all_false (z := []) h h', Bool.and_false]
theorem okCnf_good {v : Int} {cs : List (List Int)} (h : ∀ j, j < cs.length → okClause v (cs.getD j []) = true) : okCnf v cs = (okVars v && decide (cs.length ≤ 60)) := by
  rw [okCnf, all_true (z := []) h, Bool.and_true]
theorem isCnf_ok (v : Int) (cs : List (List Int)) (hl : cs.length ≤ 4294967296) (hc : ∀ j, (cs.getD j []).length ≤ 4294967296) :
    Ctr Tryz.prog 46 [.agg [.int .i64 v, .slice (cs.map D.ints)]] false (.d (.bool (okCnf v cs))) [] := by
  refine Ctr.of (n := 27) (rs := [.tmp 2]) Tryz.func46 rfl rfl Tryz.ntmps46 rfl rfl (by kernel_rfl) Tryz.checked.mixed ?_
  simp (disch := first | omega | decide +kernel) only [go_sem, zqa, zqb, zqc, zqd, zqe, ↓reduceIte, reduceCtorEq, zqf, zqg, zqh]
  refine Ok.loopC [17, 16, 15, 14, 13, 12, 11, 10, 9, 8, 5, 4, 3, 2, 0] (fun i => [(8, .d (.int .i64 (i : Nat)))]) cs.length (fun i => ∀ j, j < i → okClause v (cs.getD j []) = true) (by simp) (Wk.kk) ?_
  intro R i hN hE hi hI
  simp (disch := first | omega | decide +kernel) only [go_sem, zqa, zqb, zqc, zqd, zqe, ↓reduceIte, reduceCtorEq, zqf, zqg, zqh]
  (repeat' (first | ((first | (refine gsel_split (fun q' => ?_) (fun q' => ?_) <;> (have h' := q') <;> (try simp only [decide_eq_true_eq, decide_eq_false_iff_not, zba, zbb, bne_iff_ne, ne_eq, beq_iff_eq, bne_eq_false_iff_eq, beq_eq_false_iff_ne, zia, zib, zic, zid, zda, zbc, zbd, zbe, gt_iff_lt, ge_iff_le] at h')) | (have q' := trivial; first | refine callX_new (isClause_ok v _ (hc _)) rfl (by decide) ?_ | refine callY_new (isClause_ok v _ (hc _)) rfl ?_ | refine callX_new (varsOk_ok _) rfl (by decide) ?_ | refine callY_new (varsOk_ok _) rfl ?_ | refine hE _ _ ret_ne ?_ | refine hE _ _ exit_ne ?_)) <;> (try simp (disch := first | omega | decide +kernel) only [q', go_sem, zqa, zqb, zqc, zqd, zqe, ↓reduceIte, reduceCtorEq, zqf, zqg, zqh]) <;> clear q') | (refine hN _ ?_ ?_ Wk.kk) | (with_reducible refine And.intro ?_ ?_) | (with_reducible omega) | (exact ok_ints) | (exact cells_ints) | (exact no_mem) | (with_reducible exact plain_ints) | (refine le_maxLen ?_; omega) | (refine List.forall_mem_cons.2 ⟨?_, ?_⟩) | (simp only [go_sem, zqc, zqb, List.mem_cons, List.not_mem_nil, forall_eq]; done)))
  · rename_i h1
    rw [okCnf_bad h1 h']
  · exact all_succ hI h'
  · rw [okCnf_good fun j hj => hI j (by omega), h', Bool.true_and, decide_eq_decide.2 (by omega : (cs.length : Int) ≤ 60 ↔ cs.length ≤ 60)]
  · simp [okCnf, h']
theorem l2Good_ok (v : Int) (cs : List (List Int)) (hl : cs.length ≤ 4294967296) (hc : ∀ j, (cs.getD j []).length ≤ 4294967296) :
    Ctr Tryz.prog 37 [.agg [.int .i64 v, .slice (cs.map D.ints)]] false (.d (.bool (okCnf v cs))) [] := by
  refine Ctr.of (n := 30) (rs := [.tmp 2]) Tryz.func37 rfl rfl Tryz.ntmps37 rfl rfl (by kernel_rfl) Tryz.checked.mixed ?_
  simp (disch := first | omega | decide +kernel) only [go_sem, zqa, zqb, zqc, zqd, zqe, ↓reduceIte, reduceCtorEq, zqf, zqg, zqh]
  (repeat' (first | ((first | (refine gsel_split (fun q' => ?_) (fun q' => ?_) <;> (have h' := q') <;> (try simp only [decide_eq_true_eq, decide_eq_false_iff_not, zba, zbb, bne_iff_ne, ne_eq, beq_iff_eq, bne_eq_false_iff_eq, beq_eq_false_iff_ne, zia, zib, zic, zid, zda, zbc, zbd, zbe, gt_iff_lt, ge_iff_le] at h')) | (have q' := trivial; first | refine callX_new (l2Vars_ok _) rfl (by decide) ?_ | refine callY_new (l2Vars_ok _) rfl ?_ | refine hE _ _ ret_ne ?_ | refine hE _ _ exit_ne ?_)) <;> (try simp (disch := first | omega | decide +kernel) only [q', go_sem, zqa, zqb, zqc, zqd, zqe, ↓reduceIte, reduceCtorEq, zqf, zqg, zqh]) <;> clear q') | (refine hN _ ?_ ?_ Wk.kk) | (with_reducible refine And.intro ?_ ?_) | (with_reducible omega) | (exact ok_ints) | (exact cells_ints) | (exact no_mem) | (with_reducible exact plain_ints) | (refine le_maxLen ?_; omega) | (refine List.forall_mem_cons.2 ⟨?_, ?_⟩) | (simp only [go_sem, zqc, zqb, List.mem_cons, List.not_mem_nil, forall_eq]; done)))
  · simp [okCnf, h', D.plain]
  · simp [okCnf, show ¬ cs.length ≤ 60 by omega, D.plain]
  refine Ok.loopC [29, 28, 27, 26, 25, 24, 23, 22, 21, 20, 19, 18, 17, 16, 15, 14, 13, 12, 11, 10, 9, 8, 7, 6, 5, 4, 3, 2, 0] (fun i => [(3, .d (.int .i64 (i : Nat)))]) cs.length (fun i => ∀ j, j < i → okClause v (cs.getD j []) = true) (by simp) (Wk.kk) ?_
  intro R i hN hE hi hI
  simp (disch := first | omega | decide +kernel) only [go_sem, zqa, zqb, zqc, zqd, zqe, ↓reduceIte, reduceCtorEq, zqf, zqg, zqh]
  (repeat' (first | ((first | (refine gsel_split (fun q' => ?_) (fun q' => ?_) <;> (have h' := q') <;> (try simp only [decide_eq_true_eq, decide_eq_false_iff_not, zba, zbb, bne_iff_ne, ne_eq, beq_iff_eq, bne_eq_false_iff_eq, beq_eq_false_iff_ne, zia, zib, zic, zid, zda, zbc, zbd, zbe, gt_iff_lt, ge_iff_le] at h')) | (have q' := trivial; first | refine callX_new (l2Clause_ok v _ (hc _)) rfl (by decide) ?_ | refine callY_new (l2Clause_ok v _ (hc _)) rfl ?_ | refine hE _ _ ret_ne ?_ | refine hE _ _ exit_ne ?_)) <;> (try simp (disch := first | omega | decide +kernel) only [q', go_sem, zqa, zqb, zqc, zqd, zqe, ↓reduceIte, reduceCtorEq, zqf, zqg, zqh]) <;> clear q') | (refine hN _ ?_ ?_ Wk.kk) | (with_reducible refine And.intro ?_ ?_) | (with_reducible omega) | (exact ok_ints) | (exact cells_ints) | (exact no_mem) | (with_reducible exact plain_ints) | (refine le_maxLen ?_; omega) | (refine List.forall_mem_cons.2 ⟨?_, ?_⟩) | (simp only [go_sem, zqc, zqb, List.mem_cons, List.not_mem_nil, forall_eq]; done)))
  · rename_i h1
    rw [okCnf_bad h1 h']
  · exact all_succ hI h'
  · rename_i h0 h1
    rw [okCnf_good fun j hj => hI j (by omega), h0, decide_eq_true (by omega : cs.length ≤ 60)]; rfl
def okEarlier (v : Int) (steps : List Step) (k i : Int) : Bool := (decide (0 ≤ i) && decide (i ≤ k - 1)) && okClause v (steps.getD i.toNat Step.z).c
end Abs.Y

namespace Abs.Y
open Go Go.Proofs Abs
open Nat renaming reduceEqDiff → zqa, reduceLT → zqb, reduceAdd → zqc, reduceMul → zqd, reduceSub → zqe, reduceLeDiff → zqf, reduceSubDiff → zqg, reduceBEq → zqh
open Bool renaming not_eq_true' → zba, not_eq_false' → zbb, and_eq_true → zbc, or_eq_true → zbd, or_eq_false_iff → zbe
open Int renaming ofNat_lt → zia, ofNat_le → zib, not_lt → zic, not_le → zid
open Decidable renaming not_not → zda
set_option maxRecDepth 100000

def putI (c : List Int) (l : Int) : List Int := c.takeWhile (fun x => decide (varI x < varI l)) ++ l :: c.dropWhile (fun x => decide (varI x < varI l))
def joinI : List Int → List Int → Option (List Int)
  | a, [] => some a
  | a, x :: r => if a.any (· == IntKind.i64.wrap (0 - x)) then none else joinI (if a.any (· == x) then a else putI a x) r
def optL (o : Option (List Int)) : List Int := match o with | some c => c | none => []
def resolveI (a b : List Int) (v : Int) : Option (List Int) :=
  if (a.any (· == v) && b.any (· == IntKind.i64.wrap (0 - v))) = true then joinI (a.filter fun l => varI l != v) (b.filter fun l => varI l != v) else none
end Abs.Y

namespace Abs.Y
open Go Go.Proofs Abs
open Nat renaming reduceEqDiff → zqa, reduceLT → zqb, reduceAdd → zqc, reduceMul → zqd, reduceSub → zqe, reduceLeDiff → zqf, reduceSubDiff → zqg, reduceBEq → zqh
open Bool renaming not_eq_true' → zba, not_eq_false' → zbb, and_eq_true → zbc, or_eq_true → zbd, or_eq_false_iff → zbe
open Int renaming ofNat_lt → zia, ofNat_le → zib, not_lt → zic, not_le → zid
open Decidable renaming not_not → zda
set_option maxRecDepth 100000

@[reducible] def D.ring (p : Int) (u : Nat) : D := .agg [.int .i64 p, .int .i64 u]
theorem pow_le6 {u : Nat} (h : u ≤ 6) : 2 ^ u ≤ 64 := by
  have : 2 ^ u ≤ 2 ^ 6 := Nat.pow_le_pow_right (by decide) h
  omega
theorem or_lt_pow {a b u : Nat} (ha : a < 2 ^ u) (hb : b < 2 ^ u) : a ||| b < 2 ^ u := Nat.or_lt_two_pow ha hb
section
variable {p : Int} {u : Nat} (hp : 1 < p ∧ p ≤ 5) (hu : u ≤ 6)
include hp hu
theorem zero_ok : Ctr Tryz.prog 52 [D.ring p u] false (.sl 0) [(0, .arr 3 1 ((List.replicate (2 ^ u) (0 : Int)).map (.int .i64)))] := by
  have h2 := pow_le6 hu
  have e : IntKind.wrap .i64 (1 * 2 ^ min u 64) = ((2 ^ u : Nat) : Int) := shl_one (by omega)
  have er : List.replicate (2 ^ u) (D.int .i64 0) = (List.replicate (2 ^ u) (0 : Int)).map (D.int .i64) := by simp
  refine Ctr.of (n := 7) (rs := [.tmp 2]) Tryz.func52 rfl rfl Tryz.ntmps52 rfl rfl (by kernel_rfl) Tryz.checked.mixed ?_
  simp (disch := first | omega | decide +kernel) only [e, go_sem, zqa, zqb, zqc, zqd, zqe, ↓reduceIte, reduceCtorEq, zqf, zqg, zqh]
  (repeat' (first | ((first | (refine gsel_split (fun q' => ?_) (fun q' => ?_) <;> (have h' := q') <;> (try simp only [decide_eq_true_eq, decide_eq_false_iff_not, zba, zbb, bne_iff_ne, ne_eq, beq_iff_eq, bne_eq_false_iff_eq, beq_eq_false_iff_ne, zia, zib, zic, zid, zda, zbc, zbd, zbe, gt_iff_lt, ge_iff_le] at h') <;> try (exfalso; omega)) | (have q' := trivial; first | refine hE _ _ ret_ne ?_ | refine hE _ _ exit_ne ?_)) <;> (try simp (disch := first | omega | decide +kernel) only [q', e, go_sem, zqa, zqb, zqc, zqd, zqe, ↓reduceIte, reduceCtorEq, zqf, zqg, zqh]) <;> clear q') | (refine hN _ ?_ ?_ Wk.kk) | (with_reducible refine And.intro ?_ ?_) | (with_reducible omega) | (exact ok_ints) | (exact cells_ints) | (exact no_mem) | (with_reducible exact plain_ints) | (refine le_maxLen ?_; omega) | (refine List.forall_mem_cons.2 ⟨?_, ?_⟩) | (simp only [go_sem, zqc, zqb, List.mem_cons, List.not_mem_nil, forall_eq]; done)))
  generalize 2 ^ u = n at *
  all_goals (first | omega | (rw [er]; exact ret_sl 6 rfl rfl plain_ints))
set_option maxHeartbeats 4000000 in
theorem times_ok {a b : List Int} (ha : Vec p (2 ^ u) a) (hb : Vec p (2 ^ u) b) :
    Ctr Tryz.prog 66 [D.ring p u, .ints a, .ints b] false (.sl 0) [(0, .arr 3 1 ((mulD p (2 ^ u) a b).map (.int .i64)))] := by
  have h2 := pow_le6 hu
  have hal := ha.1
  have hbl := hb.1
  have c1 := zero_ok hp hu
  refine Ctr.of (n := 49) (rs := [.tmp 6]) Tryz.func66 rfl rfl Tryz.ntmps66 rfl rfl (by kernel_rfl) Tryz.checked.mixed ?_
  simp (disch := first | omega | decide +kernel) only [D.ints, go_sem, zqa, zqb, zqc, zqd, zqe, ↓reduceIte, reduceCtorEq, zqf, zqg, zqh]
  (repeat' (first | ((first | (refine gsel_split (fun q' => ?_) (fun q' => ?_) <;> (have h' := q') <;> (try simp only [decide_eq_true_eq, decide_eq_false_iff_not, zba, zbb, bne_iff_ne, ne_eq, beq_iff_eq, bne_eq_false_iff_eq, beq_eq_false_iff_ne, zia, zib, zic, zid, zda, zbc, zbd, zbe, gt_iff_lt, ge_iff_le] at h') <;> try (exfalso; omega)) | (have q' := trivial; first | refine callX_new (c1) rfl (by decide) ?_ | refine callY_new (c1) rfl ?_ | refine hE _ _ ret_ne ?_ | refine hE _ _ exit_ne ?_)) <;> (try simp (disch := first | omega | decide +kernel) only [q', D.ints, go_sem, zqa, zqb, zqc, zqd, zqe, ↓reduceIte, reduceCtorEq, zqf, zqg, zqh]) <;> clear q') | (refine hN _ ?_ ?_ Wk.kk) | (with_reducible refine And.intro ?_ ?_) | (with_reducible omega) | (exact ok_ints) | (exact cells_ints) | (exact no_mem) | (with_reducible exact plain_ints) | (refine le_maxLen ?_; omega) | (refine List.forall_mem_cons.2 ⟨?_, ?_⟩) | (simp only [go_sem, zqc, zqb, List.mem_cons, List.not_mem_nil, forall_eq]; done)))
  refine Ok.loopN [47, 46, 45, 44, 43, 42, 41, 40, 39, 38, 37, 36, 35, 34, 33, 32, 31, 30, 29, 28, 27, 26, 25, 24, 23, 22, 21, 20, 19, 18, 17, 16, 13, 12, 11, 10, 9, 8, 5, 4, 1, 0] (fun i _ => [(16, .d (.int .i64 (i : Nat)))]) (fun _ (v : List Int) => [(1400000, .arr 3 1 (List.map (D.int .i64) v))]) a.length
    (fun i v => v = (List.range i).foldl (fun v m => rowD p b m (a.getD m 0) v) (List.replicate (2 ^ u) 0)) (List.replicate (2 ^ u) 0) rfl (Wk.kk) ?_
  rintro R i v hN0 hE0 hi hv
  have hvv : Vec p (2 ^ u) v := by rw [hv]; exact fold_vec (fun v m h => h.rowD (by omega) b m _) _ (Vec.zero (by omega) _)
  by_cases hlt : i < a.length
  · have hsucc : (List.range (i + 1)).foldl (fun v m => rowD p b m (a.getD m 0) v) (List.replicate (2 ^ u) 0) = rowD p b i (a.getD i 0) v := by
      rw [List.range_succ, List.foldl_append, ← hv]; rfl
    have hai := ha.2 i
    clear hv
    simp (disch := first | omega | decide +kernel) only [go_sem, zqa, zqb, zqc, zqd, zqe, ↓reduceIte, reduceCtorEq, zqf, zqg, zqh]
    (repeat' (first | ((first | (refine gsel_split (fun q' => ?_) (fun q' => ?_) <;> (have h' := q') <;> (try simp only [decide_eq_true_eq, decide_eq_false_iff_not, zba, zbb, bne_iff_ne, ne_eq, beq_iff_eq, bne_eq_false_iff_eq, beq_eq_false_iff_ne, zia, zib, zic, zid, zda, zbc, zbd, zbe, gt_iff_lt, ge_iff_le] at h') <;> try (exfalso; omega)) | (have q' := trivial; first | refine hE _ _ ret_ne ?_ | refine hE _ _ exit_ne ?_)) <;> (try simp (disch := first | omega | decide +kernel) only [q', go_sem, zqa, zqb, zqc, zqd, zqe, ↓reduceIte, reduceCtorEq, zqf, zqg, zqh]) <;> clear q') | (refine hN _ ?_ ?_ Wk.kk) | (with_reducible refine And.intro ?_ ?_) | (with_reducible omega) | (exact ok_ints) | (exact cells_ints) | (exact no_mem) | (with_reducible exact plain_ints) | (refine le_maxLen ?_; omega) | (refine List.forall_mem_cons.2 ⟨?_, ?_⟩) | (simp only [go_sem, zqc, zqb, List.mem_cons, List.not_mem_nil, forall_eq]; done)))
    refine Ok.loopN [46, 45, 44, 43, 42, 41, 40, 39, 38, 37, 36, 35, 34, 33, 32, 31, 30, 29, 28, 27, 26, 25, 24, 23, 13, 12, 11, 10, 5, 4, 1, 0] (fun j _ => [(23, .d (.int .i64 (j : Nat)))]) (fun _ (w : List Int) => [(1400000, .arr 3 1 (List.map (D.int .i64) w))]) b.length
      (fun j w => w = (List.range j).foldl (fun v n => stP p v (i ||| n) (a.getD i 0 * b.getD n 0)) v) v rfl (Wk.kk) ?_
    rintro R2 j w hN hE hj hw
    have hwv : Vec p (2 ^ u) w := by rw [hw]; exact fold_vec (fun v t h => h.st (by omega) _ _) _ hvv
    by_cases hjt : j < b.length
    · have hs2 : (List.range (j + 1)).foldl (fun v n => stP p v (i ||| n) (a.getD i 0 * b.getD n 0)) v = w.set (i ||| j) ((w.getD (i ||| j) 0 + a.getD i 0 * b.getD j 0) % p) := by
        rw [List.range_succ, List.foldl_append, ← hw]; rfl
      have hor := or_lt_pow (a := i) (b := j) (u := u) (by omega) (by omega)
      have eo := bitV_or (a := i) (b := j) (by omega) (by omega)
      have hbj := hb.2 j
      have hwk := hwv.2 (i ||| j)
      have hwl := hwv.1
      clear hw
      generalize i ||| j = k at *
      have hcd : 0 ≤ a.getD i 0 * b.getD j 0 ∧ a.getD i 0 * b.getD j 0 ≤ 25 := ⟨Int.mul_nonneg hai.1 hbj.1, Int.le_trans (Int.mul_le_mul (show a.getD i 0 ≤ 5 by omega) (show b.getD j 0 ≤ 5 by omega) hbj.1 (by decide)) (by decide)⟩
      have em : (w.getD k 0 + a.getD i 0 * b.getD j 0).tmod p = (w.getD k 0 + a.getD i 0 * b.getD j 0) % p := Int.tmod_eq_emod_of_nonneg (by omega)
      have hp0 : ¬ p = 0 := by omega
      simp (disch := first | omega | decide +kernel) only [eo, em, go_sem, zqa, zqb, zqc, zqd, zqe, ↓reduceIte, reduceCtorEq, zqf, zqg, zqh]
      (repeat' (first | ((first | (refine gsel_split (fun q' => ?_) (fun q' => ?_) <;> (have h' := q') <;> (try simp only [decide_eq_true_eq, decide_eq_false_iff_not, zba, zbb, bne_iff_ne, ne_eq, beq_iff_eq, bne_eq_false_iff_eq, beq_eq_false_iff_ne, zia, zib, zic, zid, zda, zbc, zbd, zbe, gt_iff_lt, ge_iff_le] at h') <;> try (exfalso; omega)) | (have q' := trivial; first | refine hE _ _ ret_ne ?_ | refine hE _ _ exit_ne ?_)) <;> (try simp (disch := first | omega | decide +kernel) only [q', eo, em, go_sem, zqa, zqb, zqc, zqd, zqe, ↓reduceIte, reduceCtorEq, zqf, zqg, zqh]) <;> clear q') | (refine hN _ ?_ ?_ Wk.kk) | (with_reducible refine And.intro ?_ ?_) | (with_reducible omega) | (exact ok_ints) | (exact cells_ints) | (exact no_mem) | (with_reducible exact plain_ints) | (refine le_maxLen ?_; omega) | (refine List.forall_mem_cons.2 ⟨?_, ?_⟩) | (simp only [go_sem, zqc, zqb, List.mem_cons, List.not_mem_nil, forall_eq]; done)))
      all_goals (first | omega | (refine hN (w.set k ((w.getD k 0 + a.getD i 0 * b.getD j 0) % p)) _ hjt hs2.symm (by refine Wk.auto ?_ ?_ <;> simp [extraK, lk, killL, St.kill, wipeO, wipeS, AV.has, AV.hasL, AO.wipe, List.map_set, updSt, insL, dropS, ins, ]); done))
    · obtain rfl : j = b.length := by omega
      simp (disch := first | omega | decide +kernel) only [go_sem, zqa, zqb, zqc, zqd, zqe, ↓reduceIte, reduceCtorEq, zqf, zqg, zqh]
      (repeat' (first | ((first | (refine gsel_split (fun q' => ?_) (fun q' => ?_) <;> (have h' := q') <;> (try simp only [decide_eq_true_eq, decide_eq_false_iff_not, zba, zbb, bne_iff_ne, ne_eq, beq_iff_eq, bne_eq_false_iff_eq, beq_eq_false_iff_ne, zia, zib, zic, zid, zda, zbc, zbd, zbe, gt_iff_lt, ge_iff_le] at h') <;> try (exfalso; omega)) | (have q' := trivial; first | refine hE _ _ ret_ne ?_ | refine hE _ _ exit_ne ?_)) <;> (try simp (disch := first | omega | decide +kernel) only [q', go_sem, zqa, zqb, zqc, zqd, zqe, ↓reduceIte, reduceCtorEq, zqf, zqg, zqh]) <;> clear q') | (refine hN _ ?_ ?_ Wk.kk) | (with_reducible refine And.intro ?_ ?_) | (with_reducible omega) | (exact ok_ints) | (exact cells_ints) | (exact no_mem) | (with_reducible exact plain_ints) | (refine le_maxLen ?_; omega) | (refine List.forall_mem_cons.2 ⟨?_, ?_⟩) | (simp only [go_sem, zqc, zqb, List.mem_cons, List.not_mem_nil, forall_eq]; done)))
      all_goals (first | omega | (refine hN0 w _ hlt (by rw [hw]; exact hsucc.symm) (by refine Wk.auto ?_ ?_ <;> simp [extraK, lk, killL, St.kill, wipeO, wipeS, AV.has, AV.hasL, AO.wipe, List.map_set, updSt, insL, dropS, ins, ]); done))
  · obtain rfl : i = a.length := by omega
    have hE := hE0
    have hv2 : v = mulD p (2 ^ u) a b := hv
    simp (disch := first | omega | decide +kernel) only [go_sem, zqa, zqb, zqc, zqd, zqe, ↓reduceIte, reduceCtorEq, zqf, zqg, zqh]
    (repeat' (first | ((first | (refine gsel_split (fun q' => ?_) (fun q' => ?_) <;> (have h' := q') <;> (try simp only [decide_eq_true_eq, decide_eq_false_iff_not, zba, zbb, bne_iff_ne, ne_eq, beq_iff_eq, bne_eq_false_iff_eq, beq_eq_false_iff_ne, zia, zib, zic, zid, zda, zbc, zbd, zbe, gt_iff_lt, ge_iff_le] at h') <;> try (exfalso; omega)) | (have q' := trivial; first | refine hE _ _ ret_ne ?_ | refine hE _ _ exit_ne ?_)) <;> (try simp (disch := first | omega | decide +kernel) only [q', go_sem, zqa, zqb, zqc, zqd, zqe, ↓reduceIte, reduceCtorEq, zqf, zqg, zqh]) <;> clear q') | (refine hN _ ?_ ?_ Wk.kk) | (with_reducible refine And.intro ?_ ?_) | (with_reducible omega) | (exact ok_ints) | (exact cells_ints) | (exact no_mem) | (with_reducible exact plain_ints) | (refine le_maxLen ?_; omega) | (refine List.forall_mem_cons.2 ⟨?_, ?_⟩) | (simp only [go_sem, zqc, zqb, List.mem_cons, List.not_mem_nil, forall_eq]; done)))
    all_goals (first | omega | (rw [← hv2]; exact ret_sl 1400000 rfl rfl plain_ints))
theorem cloneD_ok {a : List Int} (hl : a.length ≤ 4294967296) : Ctr Tryz.prog 70 [.ints a] false (.sl 0) [(0, .arr 3 1 (a.map (.int .i64)))] := by
  refine Ctr.of (n := 8) (rs := [.tmp 2]) Tryz.func70 rfl rfl Tryz.ntmps70 rfl rfl (by kernel_rfl) Tryz.checked.mixed ?_
  simp (disch := first | omega | decide +kernel) only [D.ints, go_sem, zqa, zqb, zqc, zqd, zqe, ↓reduceIte, reduceCtorEq, zqf, zqg, zqh]
  intro b hb
  cases b with
  | true =>
    obtain rfl : a = [] := by cases a with | nil => rfl | cons x r => simp at hb
    simp (disch := first | omega | decide +kernel) only [go_sem, zqa, zqb, zqc, zqd, zqe, ↓reduceIte, reduceCtorEq, zqf, zqg, zqh]
    (repeat' (first | ((first | (refine gsel_split (fun q' => ?_) (fun q' => ?_) <;> (have h' := q') <;> (try simp only [decide_eq_true_eq, decide_eq_false_iff_not, zba, zbb, bne_iff_ne, ne_eq, beq_iff_eq, bne_eq_false_iff_eq, beq_eq_false_iff_ne, zia, zib, zic, zid, zda, zbc, zbd, zbe, gt_iff_lt, ge_iff_le] at h')) | (have q' := trivial; first | refine hE _ _ ret_ne ?_ | refine hE _ _ exit_ne ?_)) <;> (try simp (disch := first | omega | decide +kernel) only [q', go_sem, zqa, zqb, zqc, zqd, zqe, ↓reduceIte, reduceCtorEq, zqf, zqg, zqh]) <;> clear q') | (refine hN _ ?_ ?_ Wk.kk) | (with_reducible refine And.intro ?_ ?_) | (with_reducible omega) | (exact ok_ints) | (exact cells_ints) | (exact no_mem) | (with_reducible exact plain_ints) | (refine le_maxLen ?_; omega) | (refine List.forall_mem_cons.2 ⟨?_, ?_⟩) | (simp only [go_sem, zqc, zqb, List.mem_cons, List.not_mem_nil, forall_eq]; done)))
    exact ret_sl 2 rfl rfl no_mem
  | false =>
    simp (disch := first | omega | decide +kernel) only [go_sem, zqa, zqb, zqc, zqd, zqe, ↓reduceIte, reduceCtorEq, zqf, zqg, zqh]
    (repeat' (first | ((first | (refine gsel_split (fun q' => ?_) (fun q' => ?_) <;> (have h' := q') <;> (try simp only [decide_eq_true_eq, decide_eq_false_iff_not, zba, zbb, bne_iff_ne, ne_eq, beq_iff_eq, bne_eq_false_iff_eq, beq_eq_false_iff_ne, zia, zib, zic, zid, zda, zbc, zbd, zbe, gt_iff_lt, ge_iff_le] at h')) | (have q' := trivial; first | refine hE _ _ ret_ne ?_ | refine hE _ _ exit_ne ?_)) <;> (try simp (disch := first | omega | decide +kernel) only [q', go_sem, zqa, zqb, zqc, zqd, zqe, ↓reduceIte, reduceCtorEq, zqf, zqg, zqh]) <;> clear q') | (refine hN _ ?_ ?_ Wk.kk) | (with_reducible refine And.intro ?_ ?_) | (with_reducible omega) | (exact ok_ints) | (exact cells_ints) | (exact no_mem) | (with_reducible exact plain_ints) | (refine le_maxLen ?_; omega) | (refine List.forall_mem_cons.2 ⟨?_, ?_⟩) | (simp only [go_sem, zqc, zqb, List.mem_cons, List.not_mem_nil, forall_eq]; done)))
    exact ret_sl 5 rfl rfl plain_ints
set_option maxHeartbeats 4000000 in
theorem plus_ok {a b : List Int} {k : Int} (ha : Vec p (2 ^ u) a) (hb : Vec p (2 ^ u) b) (hk : 0 ≤ k ∧ k ≤ 5) :
    Ctr Tryz.prog 51 [D.ring p u, .ints a, .ints b, .int .i64 k] false (.sl 0) [(0, .arr 3 1 ((addD p k a b).map (.int .i64)))] := by
  have h2 := pow_le6 hu
  have hal := ha.1
  have hbl := hb.1
  have c1 := cloneD_ok hp hu (a := a) (by omega)
  refine Ctr.of (n := 37) (rs := [.tmp 8]) Tryz.func51 rfl rfl Tryz.ntmps51 rfl rfl (by kernel_rfl) Tryz.checked.mixed ?_
  simp (disch := first | omega | decide +kernel) only [D.ints, go_sem, zqa, zqb, zqc, zqd, zqe, ↓reduceIte, reduceCtorEq, zqf, zqg, zqh]
  (repeat' (first | ((first | (refine gsel_split (fun q' => ?_) (fun q' => ?_) <;> (have h' := q') <;> (try simp only [decide_eq_true_eq, decide_eq_false_iff_not, zba, zbb, bne_iff_ne, ne_eq, beq_iff_eq, bne_eq_false_iff_eq, beq_eq_false_iff_ne, zia, zib, zic, zid, zda, zbc, zbd, zbe, gt_iff_lt, ge_iff_le] at h') <;> try (exfalso; omega)) | (have q' := trivial; first | refine callX_new (c1) rfl (by decide) ?_ | refine callY_new (c1) rfl ?_ | refine hE _ _ ret_ne ?_ | refine hE _ _ exit_ne ?_)) <;> (try simp (disch := first | omega | decide +kernel) only [q', D.ints, go_sem, zqa, zqb, zqc, zqd, zqe, ↓reduceIte, reduceCtorEq, zqf, zqg, zqh]) <;> clear q') | (refine hN _ ?_ ?_ Wk.kk) | (with_reducible refine And.intro ?_ ?_) | (with_reducible omega) | (exact ok_ints) | (exact cells_ints) | (exact no_mem) | (with_reducible exact plain_ints) | (refine le_maxLen ?_; omega) | (refine List.forall_mem_cons.2 ⟨?_, ?_⟩) | (simp only [go_sem, zqc, zqb, List.mem_cons, List.not_mem_nil, forall_eq]; done)))
  refine Ok.loopN [35, 34, 33, 32, 31, 30, 29, 28, 27, 26, 25, 24, 23, 22, 21, 20, 19, 18, 17, 16, 13, 12, 11, 10, 7, 6, 5, 2, 1, 0] (fun i _ => [(16, .d (.int .i64 (i : Nat)))]) (fun _ (v : List Int) => [(1400000, .arr 3 1 (List.map (D.int .i64) v))]) b.length
    (fun i v => v.length = a.length ∧ ∀ j, v.getD j 0 = if j < i then (a.getD j 0 + k * b.getD j 0) % p else a.getD j 0) a ⟨rfl, by simp⟩ (Wk.kk) ?_
  rintro R i v hN hE hi ⟨hvl, hv⟩
  by_cases hlt : i < b.length
  · have hvi := hv i
    rw [if_neg (by omega)] at hvi
    have hai := ha.2 i
    have hbi := hb.2 i
    have hkb : 0 ≤ k * b.getD i 0 ∧ k * b.getD i 0 ≤ 25 := ⟨Int.mul_nonneg hk.1 hbi.1, Int.le_trans (Int.mul_le_mul hk.2 (show b.getD i 0 ≤ 5 by omega) hbi.1 (by decide)) (by decide)⟩
    have em : (a.getD i 0 + k * b.getD i 0).tmod p = (a.getD i 0 + k * b.getD i 0) % p := Int.tmod_eq_emod_of_nonneg (by omega)
    have hp0 : ¬ p = 0 := by omega
    have hset : ∀ j, (v.set i ((a.getD i 0 + k * b.getD i 0) % p)).getD j 0 = if j < i + 1 then (a.getD j 0 + k * b.getD j 0) % p else a.getD j 0 := fun j => by
      rw [getD_set]
      by_cases e : i = j
      · subst e; rw [if_pos ⟨rfl, by omega⟩, if_pos (by omega)]
      · rw [if_neg (fun h => e h.1), hv j]
        by_cases e2 : j < i
        · rw [if_pos e2, if_pos (by omega)]
        · rw [if_neg e2, if_neg (by omega)]
    clear hv
    simp (disch := first | omega | decide +kernel) only [hvi, em, go_sem, zqa, zqb, zqc, zqd, zqe, ↓reduceIte, reduceCtorEq, zqf, zqg, zqh]
    (repeat' (first | ((first | (refine gsel_split (fun q' => ?_) (fun q' => ?_) <;> (have h' := q') <;> (try simp only [decide_eq_true_eq, decide_eq_false_iff_not, zba, zbb, bne_iff_ne, ne_eq, beq_iff_eq, bne_eq_false_iff_eq, beq_eq_false_iff_ne, zia, zib, zic, zid, zda, zbc, zbd, zbe, gt_iff_lt, ge_iff_le] at h') <;> try (exfalso; omega)) | (have q' := trivial; first | refine hE _ _ ret_ne ?_ | refine hE _ _ exit_ne ?_)) <;> (try simp (disch := first | omega | decide +kernel) only [q', hvi, em, go_sem, zqa, zqb, zqc, zqd, zqe, ↓reduceIte, reduceCtorEq, zqf, zqg, zqh]) <;> clear q') | (refine hN _ ?_ ?_ Wk.kk) | (with_reducible refine And.intro ?_ ?_) | (with_reducible omega) | (exact ok_ints) | (exact cells_ints) | (exact no_mem) | (with_reducible exact plain_ints) | (refine le_maxLen ?_; omega) | (refine List.forall_mem_cons.2 ⟨?_, ?_⟩) | (simp only [go_sem, zqc, zqb, List.mem_cons, List.not_mem_nil, forall_eq]; done)))
    all_goals (first | omega | (refine hN (v.set i ((a.getD i 0 + k * b.getD i 0) % p)) _ hlt ⟨by simp [hvl], hset⟩ (by refine Wk.auto ?_ ?_ <;> simp [extraK, lk, killL, St.kill, wipeO, wipeS, AV.has, AV.hasL, AO.wipe, List.map_set, updSt, insL, dropS, ins, ]); done))
  · obtain rfl : i = b.length := by omega
    have hv2 : v = addD p k a b := by
      refine ext_getDz 0 (by simp [addD]; omega) fun j hj => ?_
      rw [hv j, if_pos (by omega), addD, getD_zip _ _ _ (by omega) j (by omega)]
    simp (disch := first | omega | decide +kernel) only [go_sem, zqa, zqb, zqc, zqd, zqe, ↓reduceIte, reduceCtorEq, zqf, zqg, zqh]
    (repeat' (first | ((first | (refine gsel_split (fun q' => ?_) (fun q' => ?_) <;> (have h' := q') <;> (try simp only [decide_eq_true_eq, decide_eq_false_iff_not, zba, zbb, bne_iff_ne, ne_eq, beq_iff_eq, bne_eq_false_iff_eq, beq_eq_false_iff_ne, zia, zib, zic, zid, zda, zbc, zbd, zbe, gt_iff_lt, ge_iff_le] at h') <;> try (exfalso; omega)) | (have q' := trivial; first | refine hE _ _ ret_ne ?_ | refine hE _ _ exit_ne ?_)) <;> (try simp (disch := first | omega | decide +kernel) only [q', go_sem, zqa, zqb, zqc, zqd, zqe, ↓reduceIte, reduceCtorEq, zqf, zqg, zqh]) <;> clear q') | (refine hN _ ?_ ?_ Wk.kk) | (with_reducible refine And.intro ?_ ?_) | (with_reducible omega) | (exact ok_ints) | (exact cells_ints) | (exact no_mem) | (with_reducible exact plain_ints) | (refine le_maxLen ?_; omega) | (refine List.forall_mem_cons.2 ⟨?_, ?_⟩) | (simp only [go_sem, zqc, zqb, List.mem_cons, List.not_mem_nil, forall_eq]; done)))
    all_goals (first | omega | (rw [← hv2]; exact ret_sl 1400000 rfl rfl plain_ints))
def monoD (u m : Nat) : List Int := (List.replicate (2 ^ u) 0).set m 1
omit hp hu in
theorem Vec.mono {p : Int} (hp : 1 < p) (u m : Nat) : Vec p (2 ^ u) (monoD u m) := by
  have h := Vec.zero (p := p) (by omega) (2 ^ u)
  refine ⟨by simp [monoD], fun i => ?_⟩
  rw [monoD, getD_set]
  split
  · omega
  · exact h.2 i
theorem mono_ok {m : Nat} (hm : m < 2 ^ u) : Ctr Tryz.prog 27 [D.ring p u, .int .i64 m] false (.sl 0) [(0, .arr 3 1 ((monoD u m).map (.int .i64)))] := by
  have h2 := pow_le6 hu
  have c1 := zero_ok hp hu
  unfold monoD
  have hl : (List.replicate (2 ^ u) (0 : Int)).length = 2 ^ u := by simp
  generalize List.replicate (2 ^ u) (0 : Int) = z at *
  refine Ctr.of (n := 12) (rs := [.tmp 4]) Tryz.func27 rfl rfl Tryz.ntmps27 rfl rfl (by kernel_rfl) Tryz.checked.mixed ?_
  simp (disch := first | omega | decide +kernel) only [go_sem, zqa, zqb, zqc, zqd, zqe, ↓reduceIte, reduceCtorEq, zqf, zqg, zqh]
  (repeat' (first | ((first | (refine gsel_split (fun q' => ?_) (fun q' => ?_) <;> (have h' := q') <;> (try simp only [decide_eq_true_eq, decide_eq_false_iff_not, zba, zbb, bne_iff_ne, ne_eq, beq_iff_eq, bne_eq_false_iff_eq, beq_eq_false_iff_ne, zia, zib, zic, zid, zda, zbc, zbd, zbe, gt_iff_lt, ge_iff_le] at h') <;> try (exfalso; omega)) | (have q' := trivial; first | refine callX_new (c1) rfl (by decide) ?_ | refine callY_new (c1) rfl ?_ | refine hE _ _ ret_ne ?_ | refine hE _ _ exit_ne ?_)) <;> (try simp (disch := first | omega | decide +kernel) only [q', go_sem, zqa, zqb, zqc, zqd, zqe, ↓reduceIte, reduceCtorEq, zqf, zqg, zqh]) <;> clear q') | (refine hN _ ?_ ?_ Wk.kk) | (with_reducible refine And.intro ?_ ?_) | (with_reducible omega) | (exact ok_ints) | (exact cells_ints) | (exact no_mem) | (with_reducible exact plain_ints) | (refine le_maxLen ?_; omega) | (refine List.forall_mem_cons.2 ⟨?_, ?_⟩) | (simp only [go_sem, zqc, zqb, List.mem_cons, List.not_mem_nil, forall_eq]; done)))
  all_goals (first | omega | (rw [List.map_set]; exact ret_sl 800000 rfl rfl (by rw [← List.map_set]; exact plain_ints)))
end
end Abs.Y
