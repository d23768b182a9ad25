/- What functions of this program compute, as contracts over plain data, with what the proofs need of them. No condition. -/
import Derived.Test.YtfaamimlkogcpaaA5
import Derived.Test.YtfaamimlkogcpaaE0
set_option linter.all false
namespace Abs.Y
open Go Go.Proofs Abs
open Nat renaming reduceEqDiff → zqa, reduceLT → zqb, reduceAdd → zqc, reduceMul → zqd, reduceSub → zqe, reduceLeDiff → zqf, reduceSubDiff → zqg, reduceBEq → zqh
open Bool renaming not_eq_true' → zba, not_eq_false' → zbb, and_eq_true → zbc, or_eq_true → zbd, or_eq_false_iff → zbe
open Int renaming ofNat_lt → zia, ofNat_le → zib, not_lt → zic, not_le → zid
open Decidable renaming not_not → zda
set_option maxRecDepth 100000

def restR (p : Int) (R : List (List Int)) (a : List Int) : List Int := redD p ldG R.reverse a
def putStep (p : Int) (lead : Nat) (row : List Int) (s : List (List Int) × Bool) (r : List Int) : List (List Int) × Bool :=
  if s.2 = false ∧ kG lead < kG (ldG r) then (s.1 ++ [row] ++ [clr p lead row r], true) else (s.1 ++ [clr p lead row r], s.2)
def putQ (p : Int) (lead : Nat) (row : List Int) (R : List (List Int)) (k : Nat) : List (List Int) × Bool := (R.take k).foldl (putStep p lead row) ([], false)
theorem putQ_succ (p : Int) (lead : Nat) (row : List Int) (R : List (List Int)) {k : Nat} (h : k < R.length) : putQ p lead row R (k + 1) = putStep p lead row (putQ p lead row R k) (R.getD k []) := by
  rw [putQ, take_succ [] R k h, List.foldl_append]; rfl
def rowR (p : Int) (u : Nat) (R : List (List Int)) (a : List Int) : List Int := addD p (invN p ((restR p R a).getD (ldG (restR p R a)) 0)) (List.replicate (2 ^ u) 0) (restR p R a)
def putR (p : Int) (u : Nat) (R : List (List Int)) (a : List Int) : List (List Int) × Bool :=
  if ldI (restR p R a) < 0 then (R, false)
  else (let s := putQ p (ldG (restR p R a)) (rowR p u R a) R R.length; if s.2 then s.1 else s.1 ++ [rowR p u R a], true)
structure EchB (p : Int) (u : Nat) (R : List (List Int)) : Prop where
  ech : Ech p (2 ^ u) ldG R
  srt : R.Pairwise fun r s => kG (ldG r) < kG (ldG s)
theorem EchB.nil {p : Int} {u : Nat} : EchB p u [] := ⟨.nil, .nil⟩
theorem putQ_at (p : Int) (lead : Nat) (row : List Int) (R : List (List Int)) : ∀ k, k ≤ R.length →
    ((putQ p lead row R k).2 = false → (putQ p lead row R k).1 = (R.take k).map (clr p lead row) ∧ ∀ r ∈ R.take k, ¬ kG lead < kG (ldG r)) ∧
    ((putQ p lead row R k).2 = true → ∃ j, j < k ∧ (putQ p lead row R k).1 = (R.take j).map (clr p lead row) ++ row :: ((R.drop j).take (k - j)).map (clr p lead row) ∧ (∀ r ∈ R.take j, ¬ kG lead < kG (ldG r)) ∧ kG lead < kG (ldG (R.getD j [])))
  | 0, _ => ⟨fun _ => ⟨by simp [putQ], by simp⟩, fun h => by simp [putQ] at h⟩
  | k + 1, hk => by
    obtain ⟨h1, h2⟩ := putQ_at p lead row R k (by omega)
    rw [putQ_succ p lead row R (by omega)]
    have et := take_succ [] R k (by omega)
    generalize putQ p lead row R k = s at *
    obtain ⟨o, b⟩ := s
    simp only at h1 h2
    unfold putStep
    simp only
    cases b with
    | false =>
      obtain ⟨e1, e2⟩ := h1 rfl
      by_cases hl : kG lead < kG (ldG (R.getD k []))
      · rw [if_pos ⟨rfl, hl⟩]
        refine ⟨fun h => (by cases h), fun _ => ⟨k, by omega, ?_, e2, hl⟩⟩
        have : (R.drop k).take (k + 1 - k) = [R.getD k []] := by
          rw [show k + 1 - k = 1 by omega, List.drop_eq_getElem_cons (by omega), List.take_succ_cons, List.take_zero, List.getD_eq_getElem?_getD, List.getElem?_eq_getElem (by omega)]; rfl
        rw [this, e1]
        simp
      · rw [if_neg (fun h => hl h.2)]
        refine ⟨fun _ => ⟨by rw [e1, et, List.map_append]; rfl, fun r hr => ?_⟩, fun h => by cases h⟩
        rw [et] at hr
        rcases List.mem_append.1 hr with hr | hr
        · exact e2 r hr
        · rw [List.mem_singleton.1 hr]; exact hl
    | true =>
      obtain ⟨j, hj, e1, e2, e3⟩ := h2 rfl
      rw [if_neg (fun h => by cases h.1)]
      refine ⟨fun h => (by cases h), fun _ => ⟨j, by omega, ?_, e2, e3⟩⟩
      have : (R.drop j).take (k + 1 - j) = (R.drop j).take (k - j) ++ [R.getD k []] := by
        rw [show k + 1 - j = (k - j) + 1 by omega, take_succ [] (R.drop j) (k - j) (by rw [List.length_drop]; omega)]
        congr 2
        rw [List.getD_eq_getElem?_getD, List.getElem?_drop, show j + (k - j) = k by omega, List.getD_eq_getElem?_getD]
      rw [this, e1]
      simp
section
variable {p : Int} {u : Nat} (hp : p = 2 ∨ p = 3 ∨ p = 5) (hu : u ≤ 6)
include hp hu
theorem restR_facts {R : List (List Int)} {a : List Int} (h : Ech p (2 ^ u) ldG R) (ha : Vec p (2 ^ u) a) : Vec p (2 ^ u) (restR p R a) ∧ (ldI (restR p R a) < 0 ↔ Sp p (2 ^ u) R a) ∧ ∀ r ∈ R, (restR p R a).getD (ldG r) 0 = 0 := by
  have hr : Ech p (2 ^ u) ldG R.reverse := h.perm (List.reverse_perm R).symm
  have h1 : Vec p (2 ^ u) (restR p R a) := redD_vec (p := p) (by omega) ldG hr.vec ha
  refine ⟨h1, ?_, fun r hm => redD_lead (by omega) ldG hr.vec hr.tri ha r (List.mem_reverse.2 hm)⟩
  rw [ldI_neg, ← vec_zero_iff (p := p) h1.1]
  unfold restR
  rw [red_iff (by omega) ldG hr.vec hr.tri ha]
  exact SpEq.perm (by omega) hr.vec (List.reverse_perm R) a
theorem restR_nz {R : List (List Int)} {a : List Int} (h : Ech p (2 ^ u) ldG R) (ha : Vec p (2 ^ u) a) (hl : ¬ ldI (restR p R a) < 0) : 0 < (restR p R a).getD (ldG (restR p R a)) 0 ∧ (restR p R a).getD (ldG (restR p R a)) 0 < p ∧ ldG (restR p R a) < 2 ^ u := by
  obtain ⟨h1, _⟩ := restR_facts hp hu h ha
  obtain ⟨h2, h3, h4, _⟩ := (ldI_or (restR p R a)).resolve_left fun h => hl (by rw [h.1]; decide)
  have := h1.2 (ldG (restR p R a))
  exact ⟨by omega, this.2, by rw [← h1.1]; exact h3⟩
theorem putR_ok {R : List (List Int)} {a : List Int} (h : EchB p u R) (ha : Vec p (2 ^ u) a) : EchB p u (putR p u R a).1 ∧ SpEq p (2 ^ u) (putR p u R a).1 (R ++ [a]) ∧ ((putR p u R a).2 = false → (putR p u R a).1 = R) ∧ ((putR p u R a).2 = true → (putR p u R a).1.length = R.length + 1) := by
  have h64 := pow_le6 hu
  have hp1 : 1 < p := by omega
  obtain ⟨h1, hiff, hlead⟩ := restR_facts hp hu h.ech ha
  have hA : AllV p (2 ^ u) (R ++ [a]) := fun x hx => by
    rcases List.mem_append.1 hx with h4 | h4
    · exact h.ech.vec x h4
    · rw [List.mem_singleton.1 h4]; exact ha
  by_cases hl : ldI (restR p R a) < 0
  · unfold putR
    rw [if_pos hl]
    refine ⟨h, fun v => ⟨Sp.trans (by omega) hA fun r hr => Sp.self (by omega) hA (List.mem_append.2 (.inl hr)), Sp.trans (by omega) h.ech.vec fun r hr => ?_⟩, fun _ => rfl, fun h => (by cases h)⟩
    rcases List.mem_append.1 hr with h4 | h4
    · exact Sp.self (by omega) h.ech.vec h4
    · rw [List.mem_singleton.1 h4]; exact hiff.1 hl
  · obtain ⟨n1, n2, n3⟩ := restR_nz hp hu h.ech ha hl
    obtain ⟨i1, i2, i3, _⟩ := invN_ok hp ⟨n1, n2⟩
    have hkey := Ech.add (κ := kG) hp1 (lds_G h64) h.ech h1 (k := invN p ((restR p R a).getD (ldG (restR p R a)) 0)) hlead (by omega) (by rw [Int.mul_comm]; exact i3)
    change Vec p (2 ^ u) (rowR p u R a) ∧ ldG (rowR p u R a) = _ ∧ (∀ r ∈ R, ldG (clr p (ldG (restR p R a)) (rowR p u R a) r) = ldG r) ∧ Ech p (2 ^ u) ldG (R.map (clr p (ldG (restR p R a)) (rowR p u R a)) ++ [rowR p u R a]) at hkey
    obtain ⟨hrow, hld, hcd, hech⟩ := hkey
    have hspan : SpEq p (2 ^ u) (R.map (clr p (ldG (restR p R a)) (rowR p u R a)) ++ [rowR p u R a]) (R ++ [a]) := by
      have hr : Ech p (2 ^ u) ldG R.reverse := h.ech.perm (List.reverse_perm R).symm
      refine (sp_clr (p := p) (by omega) (ldG (restR p R a)) h.ech.vec hrow).trans ?_
      have e1 : SpEq p (2 ^ u) (R.reverse ++ [rowR p u R a]) (R.reverse ++ [a]) := sp_tri (p := p) (by omega) ldG hr.vec ha (k := invN p ((restR p R a).getD (ldG (restR p R a)) 0)) (c := (restR p R a).getD (ldG (restR p R a)) 0) (by rw [Int.mul_comm]; exact i3)
      have hB : AllV p (2 ^ u) (R ++ [rowR p u R a]) := h.ech.vec.app fun x hx => by rw [List.mem_singleton.1 hx]; exact hrow
      exact ((SpEq.perm (by omega) hB ((List.reverse_perm R).symm.append_right _)).trans e1).trans (SpEq.perm (by omega) hA ((List.reverse_perm R).symm.append_right _)).symm
    have hne : ∀ r ∈ R, ldG r ≠ ldG (restR p R a) := fun r hr e => by
      have := hlead r hr
      rw [e] at this
      omega
    have hfin : ∃ j, j ≤ R.length ∧ (putR p u R a).1 = (R.take j).map (clr p (ldG (restR p R a)) (rowR p u R a)) ++ rowR p u R a :: (R.drop j).map (clr p (ldG (restR p R a)) (rowR p u R a)) ∧ (∀ r ∈ R.take j, ¬ kG (ldG (restR p R a)) < kG (ldG r)) ∧ (j < R.length → kG (ldG (restR p R a)) < kG (ldG (R.getD j []))) := by
      obtain ⟨q1, q2⟩ := putQ_at p (ldG (restR p R a)) (rowR p u R a) R R.length (Nat.le_refl _)
      unfold putR
      rw [if_neg hl]
      simp only
      cases hb : (putQ p (ldG (restR p R a)) (rowR p u R a) R R.length).2 with
      | false =>
        obtain ⟨e1, e2⟩ := q1 hb
        rw [if_neg (by decide), e1]
        refine ⟨R.length, Nat.le_refl _, by simp, e2, fun h => by omega⟩
      | true =>
        obtain ⟨j, hj, e1, e2, e3⟩ := q2 hb
        have ht : (R.drop j).take (R.length - j) = R.drop j := List.take_of_length_le (by rw [List.length_drop]; omega)
        rw [if_pos rfl, e1, ht]
        exact ⟨j, by omega, rfl, e2, fun _ => e3⟩
    have h2 : (putR p u R a).2 = true := by unfold putR; rw [if_neg hl]
    obtain ⟨j, hj, e1, e2, e3⟩ := hfin
    have hperm : (R.map (clr p (ldG (restR p R a)) (rowR p u R a)) ++ [rowR p u R a]).Perm (putR p u R a).1 := by
      rw [e1]
      refine (List.perm_append_comm (l₁ := R.map _) (l₂ := [rowR p u R a])).trans ?_
      rw [List.singleton_append]
      refine List.Perm.trans ?_ (List.perm_middle).symm
      rw [← List.map_append, List.take_append_drop]
    refine ⟨⟨hech.perm hperm, ?_⟩, ?_, fun h => (by rw [h2] at h; cases h), fun _ => ?_⟩
    · rw [e1]
      have hs := h.srt
      rw [← List.take_append_drop j R, List.pairwise_append] at hs
      obtain ⟨s1, s2, s3⟩ := hs
      have ht : ∀ r ∈ R.take j, kG (ldG r) < kG (ldG (restR p R a)) := fun r hr => by
        have h5 := e2 r hr
        have h6 := List.mem_of_mem_take hr
        have h7 : kG (ldG r) ≠ kG (ldG (restR p R a)) := fun e => by
          obtain ⟨_, h8, _⟩ := (ldI_or r).resolve_left fun e => h.ech.nz h6 (by rw [e.1]; decide)
          exact hne r h6 (kG_inj (by have := (h.ech.vec r h6).1; omega) (by omega) e)
        omega
      have hd : ∀ r ∈ R.drop j, kG (ldG (restR p R a)) < kG (ldG r) := fun r hr => by
        by_cases hjl : j < R.length
        · have h5 := e3 hjl
          rw [List.drop_eq_getElem_cons hjl] at hr s2
          have e4 : R.getD j [] = R[j] := by rw [List.getD_eq_getElem?_getD, List.getElem?_eq_getElem hjl]; rfl
          rw [e4] at h5
          rcases List.mem_cons.1 hr with rfl | hr
          · exact h5
          · have := (List.pairwise_cons.1 s2).1 r hr; omega
        · rw [List.drop_of_length_le (by omega)] at hr; cases hr
      rw [List.pairwise_append]
      refine ⟨?_, ?_, ?_⟩
      · rw [List.pairwise_map]
        refine List.Pairwise.imp_of_mem (fun {x y} hx hy hxy => ?_) s1
        rw [hcd x (List.mem_of_mem_take hx), hcd y (List.mem_of_mem_take hy)]; exact hxy
      · rw [List.pairwise_cons]
        refine ⟨fun x hx => ?_, ?_⟩
        · obtain ⟨r, hr, rfl⟩ := List.mem_map.1 hx
          rw [hcd r (List.mem_of_mem_drop hr), hld]; exact hd r hr
        · rw [List.pairwise_map]
          refine List.Pairwise.imp_of_mem (fun {x y} hx hy hxy => ?_) s2
          rw [hcd x (List.mem_of_mem_drop hx), hcd y (List.mem_of_mem_drop hy)]; exact hxy
      · intro x hx y hy
        obtain ⟨r, hr, rfl⟩ := List.mem_map.1 hx
        have h8 := ht r hr
        rw [hcd r (List.mem_of_mem_take hr)]
        rcases List.mem_cons.1 hy with rfl | hy
        · rw [hld]; exact h8
        · obtain ⟨s, hs, rfl⟩ := List.mem_map.1 hy
          have h9 := hd s hs
          rw [hcd s (List.mem_of_mem_drop hs)]; omega
    · exact (SpEq.perm (by omega) hech.vec hperm).symm.trans hspan
    · have := hperm.length_eq
      simp only [List.length_append, List.length_map, List.length_singleton] at this
      omega
end
def keepR (p : Int) (u : Nat) (hp : p = 2 ∨ p = 3 ∨ p = 5) (hu : u ≤ 6) : Keep p u (List (List Int)) where
  rows := id
  inv := EchB p u
  put := putR p u
  ech := fun _ h => h.ech
  ok := fun _ _ h ha => ⟨(putR_ok hp hu h ha).1, (putR_ok hp hu h ha).2.1⟩
  no := fun _ _ h ha => (putR_ok hp hu h ha).2.2.1
  yes := fun _ _ h ha => (putR_ok hp hu h ha).2.2.2
end Abs.Y

namespace Abs.Y
open Go Go.Proofs Abs
open Nat renaming reduceEqDiff → zqa, reduceLT → zqb, reduceAdd → zqc, reduceMul → zqd, reduceSub → zqe, reduceLeDiff → zqf, reduceSubDiff → zqg, reduceBEq → zqh
open Bool renaming not_eq_true' → zba, not_eq_false' → zbb, and_eq_true → zbc, or_eq_true → zbd, or_eq_false_iff → zbe
open Int renaming ofNat_lt → zia, ofNat_le → zib, not_lt → zic, not_le → zid
open Decidable renaming not_not → zda
set_option maxRecDepth 100000

theorem one_first {p : Int} {u : Nat} {R : List (List Int)} (hp : 1 < p) (hu : u ≤ 6) (h : EchB p u R) : Sp p (2 ^ u) R (monoD u 0) ↔ 0 < R.length ∧ R.getD 0 [] = monoD u 0 := by
  rw [sp_one_iff hp hu h.ech]
  have h64 := pow_le6 hu
  have h1 : 0 < 2 ^ u := Nat.pow_pos (by decide)
  have hg : ∀ i, (monoD u 0).getD i 0 = if i = 0 then 1 else 0 := fun i => by
    unfold monoD
    rw [getD_set]
    by_cases e : i = 0
    · subst e; rw [if_pos ⟨rfl, by simp; omega⟩, if_pos rfl]
    · rw [if_neg (fun h => e h.1.symm), if_neg e, getD_rep]
  have hld : ldG (monoD u 0) = 0 := (lds_G h64).eq (mono_len u 0) (by rw [hg]; decide) fun i hi => by
    rw [hg] at hi
    split at hi
    · rename_i e; rw [e]; exact Nat.le_refl _
    · exact absurd rfl hi
  constructor
  · intro hm
    have hs := h.srt
    cases R with
    | nil => cases hm
    | cons r R =>
      refine ⟨by simp, ?_⟩
      rcases List.mem_cons.1 hm with e | hm
      · exact e.symm
      · have h2 := (List.pairwise_cons.1 hs).1 _ hm
        rw [hld] at h2
        have : kG 0 = 0 := by decide
        omega
  · rintro ⟨h2, h3⟩
    rw [← h3]; exact getD_mem (z := ([] : List Int)) h2
def Barr (p : Int) (u : Nat) (d : Int) (cs L : List (List Int)) (R : List (List Int)) : Prop :=
  (∀ a ∈ L, degD a ≤ d) ∧ (∀ a ∈ clausesD p u d cs, Sp p (2 ^ u) R a) ∧ Closed p u d R ∧ ¬ Sp p (2 ^ u) R (monoD u 0)
end Abs.Y

namespace Abs.Y
open Go Go.Proofs Abs
open Nat renaming reduceEqDiff → zqa, reduceLT → zqb, reduceAdd → zqc, reduceMul → zqd, reduceSub → zqe, reduceLeDiff → zqf, reduceSubDiff → zqg, reduceBEq → zqh
open Bool renaming not_eq_true' → zba, not_eq_false' → zbb, and_eq_true → zbc, or_eq_true → zbd, or_eq_false_iff → zbe
open Int renaming ofNat_lt → zia, ofNat_le → zib, not_lt → zic, not_le → zid
open Decidable renaming not_not → zda
set_option maxRecDepth 100000

theorem one_iff {u : Nat} (hu : u ≤ 6) {V : List Int} (hl : V.length = 2 ^ u) : spT V = [(0, 1)] ↔ V = monoD u 0 := by
  have h1 := sp_one u (by omega)
  constructor
  · intro h
    have e1 := dn_sp V
    have e2 := dn_sp (monoD u 0)
    rw [h] at e1
    rw [h1] at e2
    rw [← e1, ← e2, hl, mono_len]
  · intro h; rw [h]; exact h1
section
variable {p : Int} {u : Nat} (hp : 1 < p ∧ p ≤ 5) (hu : u ≤ 6)
include hp hu
end
end Abs.Y

namespace Abs.Y
open Go Go.Proofs Abs
open Nat renaming reduceEqDiff → zqa, reduceLT → zqb, reduceAdd → zqc, reduceMul → zqd, reduceSub → zqe, reduceLeDiff → zqf, reduceSubDiff → zqg, reduceBEq → zqh
open Bool renaming not_eq_true' → zba, not_eq_false' → zbb, and_eq_true → zbc, or_eq_true → zbd, or_eq_false_iff → zbe
open Int renaming ofNat_lt → zia, ofNat_le → zib, not_lt → zic, not_le → zid
open Decidable renaming not_not → zda
set_option maxRecDepth 100000

def sumC (p : Int) (u : Nat) (cs : List (List Int)) (list : List (List (Int × Int))) (k : Nat) : List Int :=
  (List.range k).foldl (fun v i => addD p 1 v (mulD p (2 ^ u) (dnT (2 ^ u) (list.getD i [])) (clauseD p u (cs.getD i [])))) (List.replicate (2 ^ u) 0)
theorem sp_zero : ∀ u, u < 7 → spT (List.replicate (2 ^ u) 0) = [] := by decide +kernel
section
variable {p : Int} {u : Nat} (hp : 1 < p ∧ p ≤ 5) (hu : u ≤ 6)
include hp hu
end
end Abs.Y
