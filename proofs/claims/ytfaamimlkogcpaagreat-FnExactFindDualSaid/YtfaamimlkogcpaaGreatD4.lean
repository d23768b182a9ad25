/- What functions of this program compute, as contracts over plain data, with what the proofs need of them. No condition. -/
import Derived.Test.YtfaamimlkogcpaaGreatD3
import Derived.Test.YtfaamimlkogcpaaGreatE0
set_option linter.all false
namespace Abs.Y
open Go Go.Proofs Abs
open Nat renaming reduceEqDiff → zqa, reduceLT → zqb, reduceAdd → zqc, reduceMul → zqd, reduceSub → zqe, reduceLeDiff → zqf, reduceSubDiff → zqg, reduceBEq → zqh
open Bool renaming not_eq_true' → zba, not_eq_false' → zbb, and_eq_true → zbc, or_eq_true → zbd, or_eq_false_iff → zbe
open Int renaming ofNat_lt → zia, ofNat_le → zib, not_lt → zic, not_le → zid
open Decidable renaming not_not → zda
set_option maxRecDepth 100000

def ownV (p k : Int) (md : List Int) : List Int := md.map (fun n => (p - n) * k % p) ++ [k]
def padM (many : Nat) (m : List Int) : List Int := m ++ List.replicate (many + 1 - m.length) 0
def madN (p : Int) (lead many : Nat) (own r m : List Int) : List Int := if r.getD lead 0 = 0 then padM many m else addM p (p - r.getD lead 0) (padM many m) own
structure EchS where
  R : List (List Int)
  M : List (List Int)
  many : Nat
def restE (p : Int) (e : EchS) (a : List Int) : List Int := (redQ p e.R e.M a e.many e.R.length).1
def rowE (p : Int) (u : Nat) (e : EchS) (a : List Int) : List Int := addD p (invN p ((restE p e a).getD (ldG (restE p e a)) 0)) (List.replicate (2 ^ u) 0) (restE p e a)
def ownE (p : Int) (e : EchS) (a : List Int) : List Int := ownV p (invN p ((restE p e a).getD (ldG (restE p e a)) 0)) (redQ p e.R e.M a e.many e.R.length).2
def addE (p : Int) (u : Nat) (e : EchS) (a : List Int) : EchS :=
  if ldI (restE p e a) < 0 then e
  else ⟨e.R.map (clr p (ldG (restE p e a)) (rowE p u e a)) ++ [rowE p u e a], (List.range e.R.length).map (fun i => madN p (ldG (restE p e a)) e.many (ownE p e a) (e.R.getD i []) (e.M.getD i [])) ++ [ownE p e a], e.many + 1⟩
theorem padM_vec {p : Int} {many : Nat} {m : List Int} (hl : m.length ≤ many) (h : Vec p m.length m) (hp : 0 < p) : Vec p (many + 1) (padM many m) := by
  refine ⟨by simp [padM]; omega, fun i => ?_⟩
  unfold padM
  rw [List.getD_eq_getElem?_getD, List.getElem?_append]
  split
  · have := h.2 i; rwa [List.getD_eq_getElem?_getD] at this
  · rw [List.getElem?_replicate]; split <;> simp <;> omega
theorem ownV_vec {p k : Int} {many : Nat} {md : List Int} (hp : 0 < p) (hk : 0 ≤ k ∧ k < p) (h : md.length = many) : Vec p (many + 1) (ownV p k md) := by
  refine ⟨by simp [ownV, h], fun i => ?_⟩
  unfold ownV
  rw [List.getD_eq_getElem?_getD, List.getElem?_append]
  split
  · rename_i hi
    rw [List.getElem?_map]
    simp only [List.length_map] at hi
    rw [List.getElem?_eq_getElem hi]
    exact ⟨Int.emod_nonneg _ (by omega), Int.emod_lt_of_pos _ hp⟩
  · rename_i hi
    cases hj : i - (List.map (fun n => (p - n) * k % p) md).length with
    | zero => simpa using hk
    | succ j => simp; omega
structure EchI (p : Int) (u : Nat) (e : EchS) : Prop where
  ech : Ech p (2 ^ u) ldG e.R
  len : e.M.length = e.R.length
  mad : ∀ m ∈ e.M, m.length ≤ e.many ∧ Vec p m.length m
  many : e.many = e.R.length
theorem EchI.toP {p : Int} {u : Nat} {e : EchS} (h : EchI p u e) (hu : u ≤ 6) : EchP p u e.R e.M e.many := by
  have h1 := pow_le6 hu
  have h2 := ech_bd h1 h.ech
  exact ⟨h.ech.vec, fun r hr => h.ech.nz hr, h.len, h.mad, by omega, by have := h.many; omega⟩
theorem EchI.nil {p : Int} {u : Nat} : EchI p u ⟨[], [], 0⟩ := ⟨.nil, rfl, fun _ h => (by cases h), rfl⟩
section
variable {p : Int} {u : Nat} (hp : p = 2 ∨ p = 3 ∨ p = 5) (hu : u ≤ 6)
include hp hu
theorem restE_facts {e : EchS} {a : List Int} (h : EchI p u e) (ha : Vec p (2 ^ u) a) : Vec p (2 ^ u) (restE p e a) ∧ restE p e a = redD p ldG e.R a ∧ (redQ p e.R e.M a e.many e.R.length).2.length = e.many ∧ (∀ i, 0 ≤ (redQ p e.R e.M a e.many e.R.length).2.getD i 0 ∧ (redQ p e.R e.M a e.many e.R.length).2.getD i 0 < p) := by
  have h1 := redQ_vec (p := p) (M := e.M) (many := e.many) (by omega) h.ech.vec ha e.R.length (Nat.le_refl _)
  have h2 := redQ_red (p := p) (M := e.M) (many := e.many) (by omega) h.ech.vec ha e.R.length (Nat.le_refl _)
  rw [List.take_length] at h2
  exact ⟨h1.1, h2, h1.2.1, h1.2.2⟩
theorem rest_nz {e : EchS} {a : List Int} (h : EchI p u e) (ha : Vec p (2 ^ u) a) (hl : ¬ ldI (restE p e a) < 0) : 0 < (restE p e a).getD (ldG (restE p e a)) 0 ∧ (restE p e a).getD (ldG (restE p e a)) 0 < p ∧ ldG (restE p e a) < 2 ^ u ∧ ldI (restE p e a) = (ldG (restE p e a) : Nat) := by
  obtain ⟨h1, _⟩ := restE_facts hp hu h ha
  obtain ⟨h2, h3, h4, _⟩ := (ldI_or (restE p e a)).resolve_left fun h => hl (by rw [h.1]; decide)
  have := h1.2 (ldG (restE p e a))
  exact ⟨by omega, this.2, by rw [← h1.1]; exact h3, h2⟩
theorem addE_ok {e : EchS} {a : List Int} (h : EchI p u e) (ha : Vec p (2 ^ u) a) : EchI p u (addE p u e a) ∧ SpEq p (2 ^ u) (addE p u e a).R (e.R ++ [a]) ∧ (ldI (restE p e a) < 0 ↔ Sp p (2 ^ u) e.R a) := by
  have h64 := pow_le6 hu
  have hp1 : 1 < p := by omega
  obtain ⟨h1, h2, h3, h3'⟩ := restE_facts hp hu h ha
  have hiff : ldI (restE p e a) < 0 ↔ Sp p (2 ^ u) e.R a := by
    rw [ldI_neg, ← vec_zero_iff (p := p) h1.1, h2]
    exact red_iff (by omega) ldG h.ech.vec h.ech.tri ha
  refine ⟨?_, ?_, hiff⟩
  · by_cases hl : ldI (restE p e a) < 0
    · unfold addE; rw [if_pos hl]; exact h
    · obtain ⟨n1, n2, n3, _⟩ := rest_nz hp hu h ha hl
      obtain ⟨i1, i2, i3, _⟩ := invN_ok hp ⟨n1, n2⟩
      have hkey := Ech.add (κ := kG) hp1 (lds_G h64) h.ech h1 (k := invN p ((restE p e a).getD (ldG (restE p e a)) 0)) (fun r hr => by rw [h2]; exact redD_lead (by omega) ldG h.ech.vec h.ech.tri ha r hr) (by omega) (by rw [Int.mul_comm]; exact i3)
      have hov : Vec p (e.many + 1) (ownE p e a) := ownV_vec (by omega) (by omega) h3
      unfold addE
      rw [if_neg hl]
      refine ⟨hkey.2.2.2, by simp, fun m hm => ?_, by simp [h.many]⟩
      simp only [List.mem_append, List.mem_map, List.mem_range, List.mem_singleton] at hm
      rcases hm with ⟨i, hi, rfl⟩ | rfl
      · have hmi : e.M.getD i [] ∈ e.M := getD_mem (z := ([] : List Int)) (by have := h.len; omega)
        obtain ⟨m1, m2⟩ := h.mad _ hmi
        have hpv := padM_vec (many := e.many) m1 m2 (by omega)
        have : Vec p (e.many + 1) (madN p (ldG (restE p e a)) e.many (ownE p e a) (e.R.getD i []) (e.M.getD i [])) := by
          unfold madN
          split
          · exact hpv
          · exact addM_vec (by omega) _ hpv _
        exact ⟨by simp only [this.1]; omega, by rw [this.1]; exact this⟩
      · exact ⟨by simp only [hov.1]; omega, by rw [hov.1]; exact hov⟩
  · by_cases hl : ldI (restE p e a) < 0
    · unfold addE; rw [if_pos hl]
      have hA : AllV p (2 ^ u) (e.R ++ [a]) := fun x hx => by
        rcases List.mem_append.1 hx with h4 | h4
        · exact h.ech.vec x h4
        · rw [List.mem_singleton.1 h4]; exact ha
      intro v
      refine ⟨Sp.trans (by omega) hA fun r hr => Sp.self (by omega) hA (List.mem_append.2 (.inl hr)), Sp.trans (by omega) h.ech.vec fun r hr => ?_⟩
      rcases List.mem_append.1 hr with h4 | h4
      · exact Sp.self (by omega) h.ech.vec h4
      · rw [List.mem_singleton.1 h4]; exact hiff.1 hl
    · obtain ⟨n1, n2, n3, _⟩ := rest_nz hp hu h ha hl
      obtain ⟨i1, i2, i3, _⟩ := invN_ok hp ⟨n1, n2⟩
      unfold addE
      rw [if_neg hl]
      have hrow : Vec p (2 ^ u) (rowE p u e a) := Vec.addD (by omega) (a := List.replicate (2 ^ u) 0) (by simp) h1.1
      intro v
      refine (sp_clr (p := p) (by omega) (ldG (restE p e a)) h.ech.vec hrow v).trans ?_
      have := sp_tri (p := p) (by omega) ldG h.ech.vec ha (k := invN p ((restE p e a).getD (ldG (restE p e a)) 0)) (c := (restE p e a).getD (ldG (restE p e a)) 0) (by rw [Int.mul_comm]; exact i3) v
      unfold rowE
      rw [h2] at this ⊢
      exact this
end
end Abs.Y
