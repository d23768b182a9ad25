/- What functions of this program compute, as contracts over plain data, with what the proofs need of them. No condition. -/
import Derived.Test.YtfaamimlkogcpaaA4
import Derived.Test.YtfaamimlkogcpaaD4
set_option linter.all false
namespace Abs.Y
open Go Go.Proofs Abs
open Nat renaming reduceEqDiff → zqa, reduceLT → zqb, reduceAdd → zqc, reduceMul → zqd, reduceSub → zqe, reduceLeDiff → zqf, reduceSubDiff → zqg, reduceBEq → zqh
open Bool renaming not_eq_true' → zba, not_eq_false' → zbb, and_eq_true → zbc, or_eq_true → zbd, or_eq_false_iff → zbe
open Int renaming ofNat_lt → zia, ofNat_le → zib, not_lt → zic, not_le → zid
open Decidable renaming not_not → zda
set_option maxRecDepth 100000

theorem AllV.app {p : Int} {n : Nat} {R l : List (List Int)} (h : AllV p n R) (h' : AllV p n l) : AllV p n (R ++ l) := fun x hx => by
  rcases List.mem_append.1 hx with h1 | h1
  · exact h x h1
  · exact h' x h1
theorem SpEq.trans {p : Int} {n : Nat} {R R' R'' : List (List Int)} (h : SpEq p n R R') (h' : SpEq p n R' R'') : SpEq p n R R'' := fun v => (h v).trans (h' v)
theorem SpEq.symm {p : Int} {n : Nat} {R R' : List (List Int)} (h : SpEq p n R R') : SpEq p n R' R := fun v => (h v).symm
theorem Sp.mono {p : Int} {n : Nat} {R R' : List (List Int)} {v : List Int} (h : ∀ r ∈ R, r ∈ R') (hv : Sp p n R v) : Sp p n R' v := by
  induction hv with
  | zero => exact .zero
  | add k _ hr ih => exact .add k ih (h _ hr)
theorem SpEq.app {p : Int} {n : Nat} (hp : 0 < p) {R R' : List (List Int)} (l : List (List Int)) (hR : AllV p n R) (hR' : AllV p n R') (hl : AllV p n l) (h : SpEq p n R R') : SpEq p n (R ++ l) (R' ++ l) := fun v => by
  constructor
  · refine Sp.trans hp (hR'.app hl) fun r hr => ?_
    rcases List.mem_append.1 hr with h1 | h1
    · exact Sp.mono (fun x hx => List.mem_append.2 (.inl hx)) ((h r).1 (Sp.self hp hR h1))
    · exact Sp.self hp (hR'.app hl) (List.mem_append.2 (.inr h1))
  · refine Sp.trans hp (hR.app hl) fun r hr => ?_
    rcases List.mem_append.1 hr with h1 | h1
    · exact Sp.mono (fun x hx => List.mem_append.2 (.inl hx)) ((h r).2 (Sp.self hp hR' h1))
    · exact Sp.self hp (hR.app hl) (List.mem_append.2 (.inr h1))
structure Keep (p : Int) (u : Nat) (S : Type) where
  rows : S → List (List Int)
  inv : S → Prop
  put : S → List Int → S × Bool
  ech : ∀ s, inv s → Ech p (2 ^ u) ldG (rows s)
  ok : ∀ s a, inv s → Vec p (2 ^ u) a → inv (put s a).1 ∧ SpEq p (2 ^ u) (rows (put s a).1) (rows s ++ [a])
  no : ∀ s a, inv s → Vec p (2 ^ u) a → (put s a).2 = false → (put s a).1 = s
  yes : ∀ s a, inv s → Vec p (2 ^ u) a → (put s a).2 = true → (rows (put s a).1).length = (rows s).length + 1
section
variable {p : Int} {u : Nat} {S : Type} (K : Keep p u S)
def Keep.puts (q : S × Bool) (l : List (List Int)) : S × Bool := l.foldl (fun q a => ((K.put q.1 a).1, q.2 || (K.put q.1 a).2)) q
variable (hp : 1 < p) (hu : u ≤ 6)
include hp
def prodsR (p : Int) (u : Nat) (d : Int) (r : List Int) : List (List Int) := if degD r < d then (List.range u).map (fun v => mulX p u r ((v : Nat) + 1 : Int)) else []
def prods (p : Int) (u : Nat) (d : Int) (rows : List (List Int)) : List (List Int) := rows.flatMap (prodsR p u d)
omit hp in
def Keep.round (d : Int) (s : S) : S × Bool := K.puts (s, false) (prods p u d (K.rows s))
def clausesD (p : Int) (u : Nat) (d : Int) (cs : List (List Int)) : List (List Int) := (cs.filter fun c => decide ((c.length : Int) ≤ d)).map (clauseD p u)
def Keep.base (cs : List (List Int)) (d : Int) (s : S) : S := (K.puts (s, false) (clausesD p u d cs)).1
def Keep.it (d : Int) (s : S) : Nat → S × Bool
  | 0 => (s, true)
  | i + 1 => K.round d (Keep.it d s i).1
include hu
def Keep.fin (cs : List (List Int)) (d : Int) (s : S) : S := (K.it d (K.base cs d s) 65).1
end
def Closed (p : Int) (u : Nat) (d : Int) (R : List (List Int)) : Prop := ∀ a ∈ prods p u d R, Sp p (2 ^ u) R a
end Abs.Y

namespace Abs.Y
open Go Go.Proofs Abs
open Nat renaming reduceEqDiff → zqa, reduceLT → zqb, reduceAdd → zqc, reduceMul → zqd, reduceSub → zqe, reduceLeDiff → zqf, reduceSubDiff → zqg, reduceBEq → zqh
open Bool renaming not_eq_true' → zba, not_eq_false' → zbb, and_eq_true → zbc, or_eq_true → zbd, or_eq_false_iff → zbe
open Int renaming ofNat_lt → zia, ofNat_le → zib, not_lt → zic, not_le → zid
open Decidable renaming not_not → zda
set_option maxRecDepth 100000

def restR (p : Int) (R : List (List Int)) (a : List Int) : List Int := redD p ldG R.reverse a
def putStep (p : Int) (lead : Nat) (row : List Int) (s : List (List Int) × Bool) (r : List Int) : List (List Int) × Bool :=
  if s.2 = false ∧ kG lead < kG (ldG r) then (s.1 ++ [row] ++ [clr p lead row r], true) else (s.1 ++ [clr p lead row r], s.2)
def putQ (p : Int) (lead : Nat) (row : List Int) (R : List (List Int)) (k : Nat) : List (List Int) × Bool := (R.take k).foldl (putStep p lead row) ([], false)
theorem putQ_succ (p : Int) (lead : Nat) (row : List Int) (R : List (List Int)) {k : Nat} (h : k < R.length) : putQ p lead row R (k + 1) = putStep p lead row (putQ p lead row R k) (R.getD k []) := by
  rw [putQ, take_succ [] R k h, List.foldl_append]; rfl
def rowR (p : Int) (u : Nat) (R : List (List Int)) (a : List Int) : List Int := addD p (invN p ((restR p R a).getD (ldG (restR p R a)) 0)) (List.replicate (2 ^ u) 0) (restR p R a)
def putR (p : Int) (u : Nat) (R : List (List Int)) (a : List Int) : List (List Int) × Bool :=
  if ldI (restR p R a) < 0 then (R, false)
  else (let s := putQ p (ldG (restR p R a)) (rowR p u R a) R R.length; if s.2 then s.1 else s.1 ++ [rowR p u R a], true)
structure EchB (p : Int) (u : Nat) (R : List (List Int)) : Prop where
  ech : Ech p (2 ^ u) ldG R
  srt : R.Pairwise fun r s => kG (ldG r) < kG (ldG s)
theorem EchB.nil {p : Int} {u : Nat} : EchB p u [] := ⟨.nil, .nil⟩
theorem putQ_at (p : Int) (lead : Nat) (row : List Int) (R : List (List Int)) : ∀ k, k ≤ R.length →
    ((putQ p lead row R k).2 = false → (putQ p lead row R k).1 = (R.take k).map (clr p lead row) ∧ ∀ r ∈ R.take k, ¬ kG lead < kG (ldG r)) ∧
    ((putQ p lead row R k).2 = true → ∃ j, j < k ∧ (putQ p lead row R k).1 = (R.take j).map (clr p lead row) ++ row :: ((R.drop j).take (k - j)).map (clr p lead row) ∧ (∀ r ∈ R.take j, ¬ kG lead < kG (ldG r)) ∧ kG lead < kG (ldG (R.getD j [])))
  | 0, _ => ⟨fun _ => ⟨by simp [putQ], by simp⟩, fun h => by simp [putQ] at h⟩
  | k + 1, hk => by
    obtain ⟨h1, h2⟩ := putQ_at p lead row R k (by omega)
    rw [putQ_succ p lead row R (by omega)]
    have et := take_succ [] R k (by omega)
    generalize putQ p lead row R k = s at *
    obtain ⟨o, b⟩ := s
    simp only at h1 h2
    unfold putStep
    simp only
    cases b with
    | false =>
      obtain ⟨e1, e2⟩ := h1 rfl
      by_cases hl : kG lead < kG (ldG (R.getD k []))
      · rw [if_pos ⟨rfl, hl⟩]
        refine ⟨fun h => (by cases h), fun _ => ⟨k, by omega, ?_, e2, hl⟩⟩
        have : (R.drop k).take (k + 1 - k) = [R.getD k []] := by
          rw [show k + 1 - k = 1 by omega, List.drop_eq_getElem_cons (by omega), List.take_succ_cons, List.take_zero, List.getD_eq_getElem?_getD, List.getElem?_eq_getElem (by omega)]; rfl
        rw [this, e1]
        simp
      · rw [if_neg (fun h => hl h.2)]
        refine ⟨fun _ => ⟨by rw [e1, et, List.map_append]; rfl, fun r hr => ?_⟩, fun h => by cases h⟩
        rw [et] at hr
        rcases List.mem_append.1 hr with hr | hr
        · exact e2 r hr
        · rw [List.mem_singleton.1 hr]; exact hl
    | true =>
      obtain ⟨j, hj, e1, e2, e3⟩ := h2 rfl
      rw [if_neg (fun h => by cases h.1)]
      refine ⟨fun h => (by cases h), fun _ => ⟨j, by omega, ?_, e2, e3⟩⟩
      have : (R.drop j).take (k + 1 - j) = (R.drop j).take (k - j) ++ [R.getD k []] := by
        rw [show k + 1 - j = (k - j) + 1 by omega, take_succ [] (R.drop j) (k - j) (by rw [List.length_drop]; omega)]
        congr 2
        rw [List.getD_eq_getElem?_getD, List.getElem?_drop, show j + (k - j) = k by omega, List.getD_eq_getElem?_getD]
      rw [this, e1]
      simp
section
variable {p : Int} {u : Nat} (hp : p = 2 ∨ p = 3 ∨ p = 5) (hu : u ≤ 6)
include hp hu
theorem restR_facts {R : List (List Int)} {a : List Int} (h : Ech p (2 ^ u) ldG R) (ha : Vec p (2 ^ u) a) : Vec p (2 ^ u) (restR p R a) ∧ (ldI (restR p R a) < 0 ↔ Sp p (2 ^ u) R a) ∧ ∀ r ∈ R, (restR p R a).getD (ldG r) 0 = 0 := by
  have hr : Ech p (2 ^ u) ldG R.reverse := h.perm (List.reverse_perm R).symm
  have h1 : Vec p (2 ^ u) (restR p R a) := redD_vec (p := p) (by omega) ldG hr.vec ha
  refine ⟨h1, ?_, fun r hm => redD_lead (by omega) ldG hr.vec hr.tri ha r (List.mem_reverse.2 hm)⟩
  rw [ldI_neg, ← vec_zero_iff (p := p) h1.1]
  unfold restR
  rw [red_iff (by omega) ldG hr.vec hr.tri ha]
  exact SpEq.perm (by omega) hr.vec (List.reverse_perm R) a
theorem restR_nz {R : List (List Int)} {a : List Int} (h : Ech p (2 ^ u) ldG R) (ha : Vec p (2 ^ u) a) (hl : ¬ ldI (restR p R a) < 0) : 0 < (restR p R a).getD (ldG (restR p R a)) 0 ∧ (restR p R a).getD (ldG (restR p R a)) 0 < p ∧ ldG (restR p R a) < 2 ^ u := by
  obtain ⟨h1, _⟩ := restR_facts hp hu h ha
  obtain ⟨h2, h3, h4, _⟩ := (ldI_or (restR p R a)).resolve_left fun h => hl (by rw [h.1]; decide)
  have := h1.2 (ldG (restR p R a))
  exact ⟨by omega, this.2, by rw [← h1.1]; exact h3⟩
theorem putR_ok {R : List (List Int)} {a : List Int} (h : EchB p u R) (ha : Vec p (2 ^ u) a) : EchB p u (putR p u R a).1 ∧ SpEq p (2 ^ u) (putR p u R a).1 (R ++ [a]) ∧ ((putR p u R a).2 = false → (putR p u R a).1 = R) ∧ ((putR p u R a).2 = true → (putR p u R a).1.length = R.length + 1) := by
  have h64 := pow_le6 hu
  have hp1 : 1 < p := by omega
  obtain ⟨h1, hiff, hlead⟩ := restR_facts hp hu h.ech ha
  have hA : AllV p (2 ^ u) (R ++ [a]) := fun x hx => by
    rcases List.mem_append.1 hx with h4 | h4
    · exact h.ech.vec x h4
    · rw [List.mem_singleton.1 h4]; exact ha
  by_cases hl : ldI (restR p R a) < 0
  · unfold putR
    rw [if_pos hl]
    refine ⟨h, fun v => ⟨Sp.trans (by omega) hA fun r hr => Sp.self (by omega) hA (List.mem_append.2 (.inl hr)), Sp.trans (by omega) h.ech.vec fun r hr => ?_⟩, fun _ => rfl, fun h => (by cases h)⟩
    rcases List.mem_append.1 hr with h4 | h4
    · exact Sp.self (by omega) h.ech.vec h4
    · rw [List.mem_singleton.1 h4]; exact hiff.1 hl
  · obtain ⟨n1, n2, n3⟩ := restR_nz hp hu h.ech ha hl
    obtain ⟨i1, i2, i3, _⟩ := invN_ok hp ⟨n1, n2⟩
    have hkey := Ech.add (κ := kG) hp1 (lds_G h64) h.ech h1 (k := invN p ((restR p R a).getD (ldG (restR p R a)) 0)) hlead (by omega) (by rw [Int.mul_comm]; exact i3)
    change Vec p (2 ^ u) (rowR p u R a) ∧ ldG (rowR p u R a) = _ ∧ (∀ r ∈ R, ldG (clr p (ldG (restR p R a)) (rowR p u R a) r) = ldG r) ∧ Ech p (2 ^ u) ldG (R.map (clr p (ldG (restR p R a)) (rowR p u R a)) ++ [rowR p u R a]) at hkey
    obtain ⟨hrow, hld, hcd, hech⟩ := hkey
    have hspan : SpEq p (2 ^ u) (R.map (clr p (ldG (restR p R a)) (rowR p u R a)) ++ [rowR p u R a]) (R ++ [a]) := by
      have hr : Ech p (2 ^ u) ldG R.reverse := h.ech.perm (List.reverse_perm R).symm
      refine (sp_clr (p := p) (by omega) (ldG (restR p R a)) h.ech.vec hrow).trans ?_
      have e1 : SpEq p (2 ^ u) (R.reverse ++ [rowR p u R a]) (R.reverse ++ [a]) := sp_tri (p := p) (by omega) ldG hr.vec ha (k := invN p ((restR p R a).getD (ldG (restR p R a)) 0)) (c := (restR p R a).getD (ldG (restR p R a)) 0) (by rw [Int.mul_comm]; exact i3)
      have hB : AllV p (2 ^ u) (R ++ [rowR p u R a]) := h.ech.vec.app fun x hx => by rw [List.mem_singleton.1 hx]; exact hrow
      exact ((SpEq.perm (by omega) hB ((List.reverse_perm R).symm.append_right _)).trans e1).trans (SpEq.perm (by omega) hA ((List.reverse_perm R).symm.append_right _)).symm
    have hne : ∀ r ∈ R, ldG r ≠ ldG (restR p R a) := fun r hr e => by
      have := hlead r hr
      rw [e] at this
      omega
    have hfin : ∃ j, j ≤ R.length ∧ (putR p u R a).1 = (R.take j).map (clr p (ldG (restR p R a)) (rowR p u R a)) ++ rowR p u R a :: (R.drop j).map (clr p (ldG (restR p R a)) (rowR p u R a)) ∧ (∀ r ∈ R.take j, ¬ kG (ldG (restR p R a)) < kG (ldG r)) ∧ (j < R.length → kG (ldG (restR p R a)) < kG (ldG (R.getD j []))) := by
      obtain ⟨q1, q2⟩ := putQ_at p (ldG (restR p R a)) (rowR p u R a) R R.length (Nat.le_refl _)
      unfold putR
      rw [if_neg hl]
      simp only
      cases hb : (putQ p (ldG (restR p R a)) (rowR p u R a) R R.length).2 with
      | false =>
        obtain ⟨e1, e2⟩ := q1 hb
        rw [if_neg (by decide), e1]
        refine ⟨R.length, Nat.le_refl _, by simp, e2, fun h => by omega⟩
      | true =>
        obtain ⟨j, hj, e1, e2, e3⟩ := q2 hb
        have ht : (R.drop j).take (R.length - j) = R.drop j := List.take_of_length_le (by rw [List.length_drop]; omega)
        rw [if_pos rfl, e1, ht]
        exact ⟨j, by omega, rfl, e2, fun _ => e3⟩
    have h2 : (putR p u R a).2 = true := by unfold putR; rw [if_neg hl]
    obtain ⟨j, hj, e1, e2, e3⟩ := hfin
    have hperm : (R.map (clr p (ldG (restR p R a)) (rowR p u R a)) ++ [rowR p u R a]).Perm (putR p u R a).1 := by
      rw [e1]
      refine (List.perm_append_comm (l₁ := R.map _) (l₂ := [rowR p u R a])).trans ?_
      rw [List.singleton_append]
      refine List.Perm.trans ?_ (List.perm_middle).symm
      rw [← List.map_append, List.take_append_drop]
    refine ⟨⟨hech.perm hperm, ?_⟩, ?_, fun h => (by rw [h2] at h; cases h), fun _ => ?_⟩
    · rw [e1]
      have hs := h.srt
      rw [← List.take_append_drop j R, List.pairwise_append] at hs
      obtain ⟨s1, s2, s3⟩ := hs
      have ht : ∀ r ∈ R.take j, kG (ldG r) < kG (ldG (restR p R a)) := fun r hr => by
        have h5 := e2 r hr
        have h6 := List.mem_of_mem_take hr
        have h7 : kG (ldG r) ≠ kG (ldG (restR p R a)) := fun e => by
          obtain ⟨_, h8, _⟩ := (ldI_or r).resolve_left fun e => h.ech.nz h6 (by rw [e.1]; decide)
          exact hne r h6 (kG_inj (by have := (h.ech.vec r h6).1; omega) (by omega) e)
        omega
      have hd : ∀ r ∈ R.drop j, kG (ldG (restR p R a)) < kG (ldG r) := fun r hr => by
        by_cases hjl : j < R.length
        · have h5 := e3 hjl
          rw [List.drop_eq_getElem_cons hjl] at hr s2
          have e4 : R.getD j [] = R[j] := by rw [List.getD_eq_getElem?_getD, List.getElem?_eq_getElem hjl]; rfl
          rw [e4] at h5
          rcases List.mem_cons.1 hr with rfl | hr
          · exact h5
          · have := (List.pairwise_cons.1 s2).1 r hr; omega
        · rw [List.drop_of_length_le (by omega)] at hr; cases hr
      rw [List.pairwise_append]
      refine ⟨?_, ?_, ?_⟩
      · rw [List.pairwise_map]
        refine List.Pairwise.imp_of_mem (fun {x y} hx hy hxy => ?_) s1
        rw [hcd x (List.mem_of_mem_take hx), hcd y (List.mem_of_mem_take hy)]; exact hxy
      · rw [List.pairwise_cons]
        refine ⟨fun x hx => ?_, ?_⟩
        · obtain ⟨r, hr, rfl⟩ := List.mem_map.1 hx
          rw [hcd r (List.mem_of_mem_drop hr), hld]; exact hd r hr
        · rw [List.pairwise_map]
          refine List.Pairwise.imp_of_mem (fun {x y} hx hy hxy => ?_) s2
          rw [hcd x (List.mem_of_mem_drop hx), hcd y (List.mem_of_mem_drop hy)]; exact hxy
      · intro x hx y hy
        obtain ⟨r, hr, rfl⟩ := List.mem_map.1 hx
        have h8 := ht r hr
        rw [hcd r (List.mem_of_mem_take hr)]
        rcases List.mem_cons.1 hy with rfl | hy
        · rw [hld]; exact h8
        · obtain ⟨s, hs, rfl⟩ := List.mem_map.1 hy
          have h9 := hd s hs
          rw [hcd s (List.mem_of_mem_drop hs)]; omega
    · exact (SpEq.perm (by omega) hech.vec hperm).symm.trans hspan
    · have := hperm.length_eq
      simp only [List.length_append, List.length_map, List.length_singleton] at this
      omega
end
def keepR (p : Int) (u : Nat) (hp : p = 2 ∨ p = 3 ∨ p = 5) (hu : u ≤ 6) : Keep p u (List (List Int)) where
  rows := id
  inv := EchB p u
  put := putR p u
  ech := fun _ h => h.ech
  ok := fun _ _ h ha => ⟨(putR_ok hp hu h ha).1, (putR_ok hp hu h ha).2.1⟩
  no := fun _ _ h ha => (putR_ok hp hu h ha).2.2.1
  yes := fun _ _ h ha => (putR_ok hp hu h ha).2.2.2
end Abs.Y

namespace Abs.Y
open Go Go.Proofs Abs
open Nat renaming reduceEqDiff → zqa, reduceLT → zqb, reduceAdd → zqc, reduceMul → zqd, reduceSub → zqe, reduceLeDiff → zqf, reduceSubDiff → zqg, reduceBEq → zqh
open Bool renaming not_eq_true' → zba, not_eq_false' → zbb, and_eq_true → zbc, or_eq_true → zbd, or_eq_false_iff → zbe
open Int renaming ofNat_lt → zia, ofNat_le → zib, not_lt → zic, not_le → zid
open Decidable renaming not_not → zda
set_option maxRecDepth 100000

def Barr (p : Int) (u : Nat) (d : Int) (cs L : List (List Int)) (R : List (List Int)) : Prop :=
  (∀ a ∈ L, degD a ≤ d) ∧ (∀ a ∈ clausesD p u d cs, Sp p (2 ^ u) R a) ∧ Closed p u d R ∧ ¬ Sp p (2 ^ u) R (monoD u 0)
end Abs.Y

namespace Abs.Y
open Go Go.Proofs Abs
open Nat renaming reduceEqDiff → zqa, reduceLT → zqb, reduceAdd → zqc, reduceMul → zqd, reduceSub → zqe, reduceLeDiff → zqf, reduceSubDiff → zqg, reduceBEq → zqh
open Bool renaming not_eq_true' → zba, not_eq_false' → zbb, and_eq_true → zbc, or_eq_true → zbd, or_eq_false_iff → zbe
open Int renaming ofNat_lt → zia, ofNat_le → zib, not_lt → zic, not_le → zid
open Decidable renaming not_not → zda
set_option maxRecDepth 100000

def ldFI (v : List Int) : Int := idxR (fun k => v.getD k 0 != 0) v.length
def ldF (v : List Int) : Nat := (ldFI v).toNat
theorem ldFI_or (v : List Int) : (ldFI v = -1 ∧ ∀ i, v.getD i 0 = 0) ∨ (ldFI v = (ldF v : Nat) ∧ ldF v < v.length ∧ v.getD (ldF v) 0 ≠ 0 ∧ ∀ i, i < ldF v → v.getD i 0 = 0) := by
  by_cases h : ∃ k, k < v.length ∧ v.getD k 0 ≠ 0
  · obtain ⟨k, hk, hv, hmin⟩ : ∃ k, k < v.length ∧ v.getD k 0 ≠ 0 ∧ ∀ i, i < k → v.getD i 0 = 0 := by
      obtain ⟨k, hk⟩ := h
      induction k using Nat.strongRecOn with
      | ind k ih =>
        by_cases hh : ∃ i, i < k ∧ v.getD i 0 ≠ 0
        · obtain ⟨i, hi, hv⟩ := hh
          exact ih i hi ⟨by omega, hv⟩
        · exact ⟨k, hk.1, hk.2, fun i hi => Classical.byContradiction fun e => hh ⟨i, hi, e⟩⟩
    have e : ldFI v = (k : Nat) := idxR_some hk (by simpa using hv) fun j hj => by simpa using hmin j hj
    have e2 : ldF v = k := by unfold ldF; rw [e]; simp
    rw [e2]
    exact .inr ⟨e, hk, hv, hmin⟩
  · refine .inl ⟨idxR_none fun j hj => ?_, fun i => ?_⟩
    · have : v.getD j 0 = 0 := Classical.byContradiction fun e => h ⟨j, hj, e⟩
      show (v.getD j 0 != 0) = false
      rw [this]; rfl
    · by_cases hi : i < v.length
      · exact Classical.byContradiction fun e => h ⟨i, hi, e⟩
      · exact getD_oob (by omega)
theorem ldFI_neg {v : List Int} : ldFI v < 0 ↔ ∀ i, v.getD i 0 = 0 := by
  rcases ldFI_or v with ⟨h1, h2⟩ | ⟨h1, h2, h3, _⟩
  · exact ⟨fun _ => h2, fun _ => by rw [h1]; decide⟩
  · exact ⟨fun h => by omega, fun h => absurd (h _) h3⟩
theorem ldF_eq {v : List Int} {k : Nat} (h : v.getD k 0 ≠ 0) (h' : ∀ i, i < k → v.getD i 0 = 0) : ldF v = k := by
  rcases ldFI_or v with ⟨_, h2⟩ | ⟨_, _, h3, h4⟩
  · exact absurd (h2 k) h
  · by_cases e : ldF v < k
    · exact absurd (h' _ e) h3
    · by_cases e2 : k < ldF v
      · exact absurd (h4 _ e2) h
      · omega
structure BaseS where
  R : List (List Int)
  M : List (List Int)
structure BaseI (p : Int) (u : Nat) (b : BaseS) : Prop where
  vec : AllV p (2 ^ u) b.R
  tri : Tri ldF b.R
  len : b.M.length = b.R.length
  mad : ∀ m ∈ b.M, m.length ≤ b.R.length ∧ Vec p m.length m
  nod : (b.R.map ldF).Nodup
theorem BaseI.nz {p : Int} {u : Nat} {b : BaseS} (h : BaseI p u b) {r : List Int} (hr : r ∈ b.R) : ¬ ldFI r < 0 := fun hn => by
  have := h.tri.1 r hr
  rw [ldFI_neg.1 hn] at this
  exact absurd this (by decide)
theorem BaseI.nil {p : Int} {u : Nat} : BaseI p u ⟨[], []⟩ := ⟨fun _ h => (by cases h), ⟨fun _ h => (by cases h), .nil⟩, rfl, fun _ h => (by cases h), .nil⟩
theorem nodup_len2 : ∀ {l l' : List Nat}, l.Nodup → (∀ x ∈ l, x ∈ l') → l.length ≤ l'.length
  | [], _, _, _ => Nat.zero_le _
  | x :: r, l', h, hs => by
    rw [List.nodup_cons] at h
    have h1 := hs x (by simp)
    have h2 := nodup_len2 (l' := l'.erase x) h.2 fun y hy => (List.mem_erase_of_ne (fun e => h.1 (by rw [← e]; exact hy))).2 (hs y (by simp [hy]))
    rw [List.length_erase_of_mem h1] at h2
    have := List.length_pos_of_mem h1
    simp only [List.length_cons]; omega
theorem BaseI.bd {p : Int} {u : Nat} (hu : u ≤ 6) {b : BaseS} (h : BaseI p u b) : b.R.length ≤ 64 := by
  have h64 := pow_le6 hu
  have h1 := nodup_len2 (l := b.R.map ldF) (l' := List.range (2 ^ u)) h.nod fun x hx => by
    obtain ⟨r, hr, rfl⟩ := List.mem_map.1 hx
    obtain ⟨_, h2, _⟩ := (ldFI_or r).resolve_left fun e => h.nz hr (by rw [e.1]; decide)
    rw [List.mem_range, ← (h.vec r hr).1]; exact h2
  simp only [List.length_map, List.length_range] at h1
  omega
def redFP (p : Int) (R M : List (List Int)) (s : List Int × List Int) (i : Nat) : List Int × List Int :=
  if s.1.getD (ldF (R.getD i [])) 0 = 0 then s else (addD p (p - s.1.getD (ldF (R.getD i [])) 0) s.1 (R.getD i []), addM p (s.1.getD (ldF (R.getD i [])) 0) s.2 (M.getD i []))
def redFQ (p : Int) (R M : List (List Int)) (a : List Int) (many k : Nat) : List Int × List Int := (List.range k).foldl (redFP p R M) (a, List.replicate many 0)
theorem redFQ_succ (p : Int) (R M : List (List Int)) (a : List Int) (many k : Nat) : redFQ p R M a many (k + 1) = redFP p R M (redFQ p R M a many k) k := by
  rw [redFQ, List.range_succ, List.foldl_append]; rfl
theorem redFQ_vec {p : Int} (hp : 0 < p) {n many : Nat} {R M : List (List Int)} {a : List Int} (hR : AllV p n R) (ha : Vec p n a) : ∀ k, k ≤ R.length → Vec p n (redFQ p R M a many k).1 ∧ Vec p many (redFQ p R M a many k).2
  | 0, _ => ⟨ha, Vec.zero hp many⟩
  | k + 1, hk => by
    have ih := redFQ_vec hp (M := M) (many := many) hR ha k (by omega)
    rw [redFQ_succ]
    unfold redFP
    split
    · exact ih
    · exact ⟨Vec.addD hp ih.1.1 (hR _ (getD_mem (z := ([] : List Int)) (by omega))).1, addM_vec hp _ ih.2 _⟩
theorem redFQ_red {p : Int} (hp : 0 < p) {n many : Nat} {R M : List (List Int)} {a : List Int} (hR : AllV p n R) (ha : Vec p n a) : ∀ k, k ≤ R.length → (redFQ p R M a many k).1 = redD p ldF (R.take k) a
  | 0, _ => rfl
  | k + 1, hk => by
    have ih := redFQ_red hp (M := M) (many := many) hR ha k (by omega)
    have hv := (redFQ_vec hp (M := M) (many := many) hR ha k (by omega)).1
    have hr := hR _ (getD_mem (z := ([] : List Int)) (l := R) (i := k) (by omega))
    rw [redFQ_succ, take_succ [] R k (by omega), redD, List.foldl_append]
    change _ = addD p (p - (redD p ldF (R.take k) a).getD (ldF (R.getD k [])) 0) (redD p ldF (R.take k) a) (R.getD k [])
    rw [← ih]
    unfold redFP
    split
    · rename_i h
      rw [h, Int.sub_zero, addD_mul 1 (by omega) hv hr.1]
    · rfl
def leftF (p : Int) (b : BaseS) (a : List Int) : List Int := (redFQ p b.R b.M a b.R.length b.R.length).1
def madeF (p : Int) (b : BaseS) (a : List Int) : List Int := (redFQ p b.R b.M a b.R.length b.R.length).2
def rowF (p : Int) (u : Nat) (b : BaseS) (a : List Int) : List Int := addD p (invN p ((leftF p b a).getD (ldF (leftF p b a)) 0)) (List.replicate (2 ^ u) 0) (leftF p b a)
def addF (p : Int) (u : Nat) (b : BaseS) (a : List Int) : BaseS :=
  if ldFI (leftF p b a) < 0 then b else ⟨b.R ++ [rowF p u b a], b.M ++ [ownV p (invN p ((leftF p b a).getD (ldF (leftF p b a)) 0)) (madeF p b a)]⟩
section
variable {p : Int} {u : Nat} (hp : p = 2 ∨ p = 3 ∨ p = 5)
include hp
theorem leftF_facts {b : BaseS} {a : List Int} (h : BaseI p u b) (ha : Vec p (2 ^ u) a) : Vec p (2 ^ u) (leftF p b a) ∧ leftF p b a = redD p ldF b.R a ∧ Vec p b.R.length (madeF p b a) ∧ (ldFI (leftF p b a) < 0 ↔ Sp p (2 ^ u) b.R a) := by
  have h1 := redFQ_vec (p := p) (M := b.M) (many := b.R.length) (by omega) h.vec ha b.R.length (Nat.le_refl _)
  have h2 := redFQ_red (p := p) (M := b.M) (many := b.R.length) (by omega) h.vec ha b.R.length (Nat.le_refl _)
  rw [List.take_length] at h2
  refine ⟨h1.1, h2, h1.2, ?_⟩
  have h3 : Vec p (2 ^ u) (leftF p b a) := h1.1
  rw [ldFI_neg, ← vec_zero_iff (p := p) h3.1]
  unfold leftF
  rw [h2]
  exact red_iff (by omega) ldF h.vec h.tri ha
theorem leftF_nz {b : BaseS} {a : List Int} (h : BaseI p u b) (ha : Vec p (2 ^ u) a) (hl : ¬ ldFI (leftF p b a) < 0) : 0 < (leftF p b a).getD (ldF (leftF p b a)) 0 ∧ (leftF p b a).getD (ldF (leftF p b a)) 0 < p ∧ ldF (leftF p b a) < 2 ^ u ∧ ldFI (leftF p b a) = (ldF (leftF p b a) : Nat) := by
  obtain ⟨h1, _⟩ := leftF_facts hp h ha
  obtain ⟨h2, h3, h4, _⟩ := (ldFI_or (leftF p b a)).resolve_left fun h => hl (by rw [h.1]; decide)
  have := h1.2 (ldF (leftF p b a))
  exact ⟨by omega, this.2, by rw [← h1.1]; exact h3, h2⟩
theorem rowF_facts {b : BaseS} {a : List Int} (h : BaseI p u b) (ha : Vec p (2 ^ u) a) (hl : ¬ ldFI (leftF p b a) < 0) : Vec p (2 ^ u) (rowF p u b a) ∧ ldF (rowF p u b a) = ldF (leftF p b a) ∧ (rowF p u b a).getD (ldF (leftF p b a)) 0 = 1 := by
  obtain ⟨h1, _⟩ := leftF_facts hp h ha
  obtain ⟨n1, n2, n3, _⟩ := leftF_nz hp h ha hl
  obtain ⟨_, _, i3, _⟩ := invN_ok hp ⟨n1, n2⟩
  have hlen := h1.1
  have hrow : Vec p (2 ^ u) (rowF p u b a) := Vec.addD (by omega) (a := List.replicate (2 ^ u) 0) (by simp) h1.1
  have hg : ∀ i, (rowF p u b a).getD i 0 = (invN p ((leftF p b a).getD (ldF (leftF p b a)) 0) : Int) * (leftF p b a).getD i 0 % p := fun i => by
    show (addD p _ (List.replicate (2 ^ u) 0) (leftF p b a)).getD i 0 = _
    rw [addD_get (by simp; omega), getD_rep, Int.zero_add]
  have hone : (rowF p u b a).getD (ldF (leftF p b a)) 0 = 1 := by rw [hg, Int.mul_comm]; exact i3
  obtain ⟨_, _, _, h5⟩ := (ldFI_or (leftF p b a)).resolve_left fun h => hl (by rw [h.1]; decide)
  refine ⟨hrow, ldF_eq (by rw [hone]; decide) fun i hi => ?_, hone⟩
  rw [hg, h5 i hi]; simp
theorem addF_ok {b : BaseS} {a : List Int} (h : BaseI p u b) (ha : Vec p (2 ^ u) a) : BaseI p u (addF p u b a) ∧ SpEq p (2 ^ u) (addF p u b a).R (b.R ++ [a]) := by
  obtain ⟨h1, h2, h3, hiff⟩ := leftF_facts hp h ha
  have hA : AllV p (2 ^ u) (b.R ++ [a]) := h.vec.app fun x hx => by rw [List.mem_singleton.1 hx]; exact ha
  by_cases hl : ldFI (leftF p b a) < 0
  · unfold addF; rw [if_pos hl]
    refine ⟨h, fun v => ⟨Sp.trans (by omega) hA fun r hr => Sp.self (by omega) hA (List.mem_append.2 (.inl hr)), Sp.trans (by omega) h.vec fun r hr => ?_⟩⟩
    rcases List.mem_append.1 hr with h4 | h4
    · exact Sp.self (by omega) h.vec h4
    · rw [List.mem_singleton.1 h4]; exact hiff.1 hl
  · obtain ⟨n1, n2, n3, _⟩ := leftF_nz hp h ha hl
    obtain ⟨i1, i2, i3, _⟩ := invN_ok hp ⟨n1, n2⟩
    obtain ⟨r1, r2, r3⟩ := rowF_facts hp h ha hl
    have hz : ∀ r ∈ b.R, (leftF p b a).getD (ldF r) 0 = 0 := fun r hr => by rw [h2]; exact redD_lead (by omega) ldF h.vec h.tri ha r hr
    have hz2 : ∀ r ∈ b.R, (rowF p u b a).getD (ldF r) 0 = 0 := fun r hr => by
      show (addD p _ (List.replicate (2 ^ u) 0) (leftF p b a)).getD (ldF r) 0 = 0
      have := h1.1
      rw [addD_get (by simp; omega), getD_rep, hz r hr]; simp
    have hov : Vec p (b.R.length + 1) (ownV p (invN p ((leftF p b a).getD (ldF (leftF p b a)) 0)) (madeF p b a)) := ownV_vec (by omega) (by omega) h3.1
    unfold addF
    rw [if_neg hl]
    refine ⟨⟨h.vec.app fun x hx => by rw [List.mem_singleton.1 hx]; exact r1, ⟨fun r hr => ?_, ?_⟩, by simp [h.len], fun m hm => ?_, ?_⟩, fun v => ?_⟩
    · rcases List.mem_append.1 hr with h4 | h4
      · exact h.tri.1 r h4
      · rw [List.mem_singleton.1 h4, r2]; exact r3
    · rw [List.pairwise_append]
      exact ⟨h.tri.2, List.pairwise_singleton _ _, fun x hx y hy => by rw [List.mem_singleton.1 hy]; exact hz2 x hx⟩
    · rcases List.mem_append.1 hm with h4 | h4
      · have := h.mad m h4
        exact ⟨by simp; omega, this.2⟩
      · rw [List.mem_singleton.1 h4]
        exact ⟨by rw [hov.1]; simp, by rw [hov.1]; exact hov⟩
    · rw [List.map_append, List.nodup_append]
      refine ⟨h.nod, by simp, fun x hx y hy e => ?_⟩
      obtain ⟨r, hr, rfl⟩ := List.mem_map.1 hx
      simp only [List.map_cons, List.map_nil, List.mem_singleton] at hy
      have h5 := hz2 r hr
      rw [e, hy, r2, r3] at h5
      exact absurd h5 (by decide)
    · have := sp_tri (p := p) (by omega) ldF h.vec ha (k := invN p ((leftF p b a).getD (ldF (leftF p b a)) 0)) (c := (leftF p b a).getD (ldF (leftF p b a)) 0) (by rw [Int.mul_comm]; exact i3) v
      unfold rowF
      rw [h2] at this ⊢
      exact this
end
end Abs.Y
