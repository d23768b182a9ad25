/- What functions of this program compute, as contracts over plain data, with what the proofs need of them. No condition. -/
import Derived.Test.YtfaamimlkogcpaaGreatA3
import Derived.Test.YtfaamimlkogcpaaGreatA1
set_option linter.all false
namespace Abs.Y
open Go Go.Proofs Abs
open Nat renaming reduceEqDiff → zqa, reduceLT → zqb, reduceAdd → zqc, reduceMul → zqd, reduceSub → zqe, reduceLeDiff → zqf, reduceSubDiff → zqg, reduceBEq → zqh
open Bool renaming not_eq_true' → zba, not_eq_false' → zbb, and_eq_true → zbc, or_eq_true → zbd, or_eq_false_iff → zbe
open Int renaming ofNat_lt → zia, ofNat_le → zib, not_lt → zic, not_le → zid
open Decidable renaming not_not → zda
set_option maxRecDepth 100000

def mulX (p : Int) (u : Nat) (v : List Int) (x : Int) : List Int := mulD p (2 ^ u) v (litD p u x)
structure Cl (p : Int) (u : Nat) (cs : List (List Int)) (d : Int) (W : List Int → Prop) : Prop where
  zero : W (List.replicate (2 ^ u) 0)
  add : ∀ v w k, Vec p (2 ^ u) v → Vec p (2 ^ u) w → W v → W w → W (addD p k v w)
  cl : ∀ c ∈ cs, (c.length : Int) ≤ d → W (clauseD p u c)
  mul : ∀ v, Vec p (2 ^ u) v → W v → degD v < d → ∀ x : Int, 1 ≤ x → x ≤ u → W (mulX p u v x)
def Mn (p : Int) (u : Nat) (cs : List (List Int)) (d : Int) (v : List Int) : Prop := ∀ W, Cl p u cs d W → W v
theorem sp_ld {p : Int} {n : Nat} {R : List (List Int)} {v : List Int} (hp : 1 < p) (hn : n ≤ 64) (h : Ech p n ldG R) (hv : Sp p n R v) (hz : ¬ ldI v < 0) : ∃ s ∈ R, ldG s = ldG v := by
  have hvv := hv.vec (by omega) h.vec
  by_cases hh : ∃ s ∈ R, ldG s = ldG v
  · exact hh
  · exfalso
    obtain ⟨_, _, hv3, hv4⟩ := (ldI_or v).resolve_left fun h => hz (by rw [h.1]; decide)
    have key : ∀ (S : List (List Int)) (a : List Int), Ech p n ldG S → Vec p n a → (∀ s ∈ S, a.getD (ldG s) 0 = v.getD (ldG s) 0) → (∀ s ∈ S, ldG s ≠ ldG v) → (redD p ldG S a).getD (ldG v) 0 = a.getD (ldG v) 0 := by
      intro S
      induction S with
      | nil => exact fun a _ _ _ _ => rfl
      | cons r S ih =>
        intro a hS ha he hne
        have hr := hS.vec r (by simp)
        have hpw := List.pairwise_cons.1 hS.pw
        have hS' : Ech p n ldG S := ⟨fun x hx => hS.vec x (by simp [hx]), fun x hx => hS.one x (by simp [hx]), hpw.2⟩
        have hget : ∀ i, (addD p (p - a.getD (ldG r) 0) a r).getD i 0 = (a.getD i 0 + (p - a.getD (ldG r) 0) * r.getD i 0) % p := fun i => addD_get (by rw [ha.1, hr.1]) i
        rw [redD_cons, ih _ hS' (Vec.addD (by omega) ha.1 hr.1) (fun s hs => ?_) (fun s hs => hne s (by simp [hs]))]
        · rw [hget]
          have h1 := he r (by simp)
          have ha2 := ha.2 (ldG v)
          by_cases hc : v.getD (ldG r) 0 = 0
          · rw [h1, hc, Int.sub_zero, emod_eq_of (y := a.getD (ldG v) 0) (r.getD (ldG v) 0) rfl, Int.emod_eq_of_lt ha2.1 ha2.2]
          · have h2 := hv4 _ hc
            have h3 : r.getD (ldG v) 0 = 0 := by
              by_cases h5 : r.getD (ldG v) 0 = 0
              · exact h5
              · have h6 := ((lds_G hn).top r hr.1 _ h5).2
                have h7 := (lds_G hn).eq (v := v) hvv.1 hc fun i hi => Nat.le_trans (hv4 i hi) h6
                exact absurd h7.symm (hne r (by simp))
            rw [h3, Int.mul_zero, Int.add_zero, Int.emod_eq_of_lt ha2.1 ha2.2]
        · rw [hget, (hpw.1 s hs).2, Int.mul_zero, Int.add_zero]
          have ha2 := ha.2 (ldG s)
          rw [Int.emod_eq_of_lt ha2.1 ha2.2, he s (by simp [hs])]
    have h1 := key R v h hvv (fun s _ => rfl) fun s hs e => hh ⟨s, hs, e⟩
    rw [redD_sp (by omega) ldG h.vec h.tri hv, getD_rep] at h1
    exact hv3 h1.symm
theorem nodup_len : ∀ {l l' : List Nat}, l.Nodup → (∀ x ∈ l, x ∈ l') → l.length ≤ l'.length
  | [], _, _, _ => Nat.zero_le _
  | x :: r, l', h, hs => by
    rw [List.nodup_cons] at h
    have h1 := hs x (by simp)
    have h2 := nodup_len (l' := l'.erase x) h.2 fun y hy => (List.mem_erase_of_ne (fun e => h.1 (by rw [← e]; exact hy))).2 (hs y (by simp [hy]))
    rw [List.length_erase_of_mem h1] at h2
    have := List.length_pos_of_mem h1
    simp only [List.length_cons]; omega
theorem Ech.nodup {p : Int} {n : Nat} {R : List (List Int)} (h : Ech p n ldG R) : (R.map ldG).Nodup := by
  rw [List.nodup_iff_pairwise_ne, List.pairwise_map]
  refine List.Pairwise.imp_of_mem (fun {a b} ha hb hab e => ?_) h.pw
  have := h.one b hb
  rw [← e, hab.1] at this
  exact absurd this (by decide)
theorem Ech.nz {p : Int} {n : Nat} {R : List (List Int)} (h : Ech p n ldG R) {r : List Int} (hr : r ∈ R) : ¬ ldI r < 0 := fun hn => by
  have := h.one r hr
  rw [ldI_neg.1 hn] at this
  exact absurd this (by decide)
theorem ech_bd {p : Int} {n : Nat} {R : List (List Int)} (hn : n ≤ 64) (h : Ech p n ldG R) : R.length ≤ n := by
  have h1 := nodup_len (l := R.map ldG) (l' := List.range n) h.nodup fun x hx => by
    obtain ⟨r, hr, rfl⟩ := List.mem_map.1 hx
    obtain ⟨_, h2, _⟩ := (ldI_or r).resolve_left fun e => h.nz hr (by rw [e.1]; decide)
    rw [List.mem_range, ← (h.vec r hr).1]; exact h2
  simpa using h1
theorem sp_one_iff {p : Int} {u : Nat} {R : List (List Int)} (hp : 1 < p) (hu : u ≤ 6) (h : Ech p (2 ^ u) ldG R) : Sp p (2 ^ u) R (monoD u 0) ↔ monoD u 0 ∈ R := by
  have h64 := pow_le6 hu
  have h1 : 0 < 2 ^ u := Nat.pow_pos (by decide)
  have hg : ∀ i, (monoD u 0).getD i 0 = if i = 0 then 1 else 0 := fun i => by
    unfold monoD
    rw [getD_set]
    by_cases e : i = 0
    · subst e; rw [if_pos ⟨rfl, by simp; omega⟩, if_pos rfl]
    · rw [if_neg (fun h => e h.1.symm), if_neg e, getD_rep]
  have hld : ldG (monoD u 0) = 0 := (lds_G h64).eq (mono_len u 0) (by rw [hg]; decide) fun i hi => by
    rw [hg] at hi
    split at hi
    · rename_i e; rw [e]; exact Nat.le_refl _
    · exact absurd rfl hi
  constructor
  · intro hv
    have hnz : ¬ ldI (monoD u 0) < 0 := fun e => by have := ldI_neg.1 e 0; rw [hg] at this; exact absurd this (by decide)
    obtain ⟨s, hs, he⟩ := sp_ld hp h64 h hv hnz
    rw [hld] at he
    have e : s = monoD u 0 := by
      refine vec_ext (p := p) (n := 2 ^ u) (h.vec s hs).1 (mono_len u 0) fun i => ?_
      rw [hg]
      by_cases e : i = 0
      · rw [if_pos e, e]; have := h.one s hs; rwa [he] at this
      · rw [if_neg e]
        by_cases h5 : s.getD i 0 = 0
        · exact h5
        · have h6 := ((lds_G h64).top s (h.vec s hs).1 i h5).2
          rw [he] at h6
          have : kG 0 = 0 := by decide
          unfold kG at h6 this
          omega
    rw [← e]; exact hs
  · exact fun hm => Sp.self (by omega) h.vec hm
end Abs.Y

namespace Abs.Y
open Go Go.Proofs Abs
open Nat renaming reduceEqDiff → zqa, reduceLT → zqb, reduceAdd → zqc, reduceMul → zqd, reduceSub → zqe, reduceLeDiff → zqf, reduceSubDiff → zqg, reduceBEq → zqh
open Bool renaming not_eq_true' → zba, not_eq_false' → zbb, and_eq_true → zbc, or_eq_true → zbd, or_eq_false_iff → zbe
open Int renaming ofNat_lt → zia, ofNat_le → zib, not_lt → zic, not_le → zid
open Decidable renaming not_not → zda
set_option maxRecDepth 100000

theorem AllV.app {p : Int} {n : Nat} {R l : List (List Int)} (h : AllV p n R) (h' : AllV p n l) : AllV p n (R ++ l) := fun x hx => by
  rcases List.mem_append.1 hx with h1 | h1
  · exact h x h1
  · exact h' x h1
theorem SpEq.trans {p : Int} {n : Nat} {R R' R'' : List (List Int)} (h : SpEq p n R R') (h' : SpEq p n R' R'') : SpEq p n R R'' := fun v => (h v).trans (h' v)
theorem SpEq.symm {p : Int} {n : Nat} {R R' : List (List Int)} (h : SpEq p n R R') : SpEq p n R' R := fun v => (h v).symm
theorem Sp.mono {p : Int} {n : Nat} {R R' : List (List Int)} {v : List Int} (h : ∀ r ∈ R, r ∈ R') (hv : Sp p n R v) : Sp p n R' v := by
  induction hv with
  | zero => exact .zero
  | add k _ hr ih => exact .add k ih (h _ hr)
theorem SpEq.app {p : Int} {n : Nat} (hp : 0 < p) {R R' : List (List Int)} (l : List (List Int)) (hR : AllV p n R) (hR' : AllV p n R') (hl : AllV p n l) (h : SpEq p n R R') : SpEq p n (R ++ l) (R' ++ l) := fun v => by
  constructor
  · refine Sp.trans hp (hR'.app hl) fun r hr => ?_
    rcases List.mem_append.1 hr with h1 | h1
    · exact Sp.mono (fun x hx => List.mem_append.2 (.inl hx)) ((h r).1 (Sp.self hp hR h1))
    · exact Sp.self hp (hR'.app hl) (List.mem_append.2 (.inr h1))
  · refine Sp.trans hp (hR.app hl) fun r hr => ?_
    rcases List.mem_append.1 hr with h1 | h1
    · exact Sp.mono (fun x hx => List.mem_append.2 (.inl hx)) ((h r).2 (Sp.self hp hR' h1))
    · exact Sp.self hp (hR.app hl) (List.mem_append.2 (.inr h1))
structure Keep (p : Int) (u : Nat) (S : Type) where
  rows : S → List (List Int)
  inv : S → Prop
  put : S → List Int → S × Bool
  ech : ∀ s, inv s → Ech p (2 ^ u) ldG (rows s)
  ok : ∀ s a, inv s → Vec p (2 ^ u) a → inv (put s a).1 ∧ SpEq p (2 ^ u) (rows (put s a).1) (rows s ++ [a])
  no : ∀ s a, inv s → Vec p (2 ^ u) a → (put s a).2 = false → (put s a).1 = s
  yes : ∀ s a, inv s → Vec p (2 ^ u) a → (put s a).2 = true → (rows (put s a).1).length = (rows s).length + 1
section
variable {p : Int} {u : Nat} {S : Type} (K : Keep p u S)
def Keep.puts (q : S × Bool) (l : List (List Int)) : S × Bool := l.foldl (fun q a => ((K.put q.1 a).1, q.2 || (K.put q.1 a).2)) q
variable (hp : 1 < p) (hu : u ≤ 6)
include hp
def prodsR (p : Int) (u : Nat) (d : Int) (r : List Int) : List (List Int) := if degD r < d then (List.range u).map (fun v => mulX p u r ((v : Nat) + 1 : Int)) else []
def prods (p : Int) (u : Nat) (d : Int) (rows : List (List Int)) : List (List Int) := rows.flatMap (prodsR p u d)
omit hp in
def Keep.round (d : Int) (s : S) : S × Bool := K.puts (s, false) (prods p u d (K.rows s))
def clausesD (p : Int) (u : Nat) (d : Int) (cs : List (List Int)) : List (List Int) := (cs.filter fun c => decide ((c.length : Int) ≤ d)).map (clauseD p u)
def Keep.base (cs : List (List Int)) (d : Int) (s : S) : S := (K.puts (s, false) (clausesD p u d cs)).1
def Keep.it (d : Int) (s : S) : Nat → S × Bool
  | 0 => (s, true)
  | i + 1 => K.round d (Keep.it d s i).1
include hu
def Keep.fin (cs : List (List Int)) (d : Int) (s : S) : S := (K.it d (K.base cs d s) 65).1
end
def Closed (p : Int) (u : Nat) (d : Int) (R : List (List Int)) : Prop := ∀ a ∈ prods p u d R, Sp p (2 ^ u) R a
end Abs.Y

namespace Abs.Y
open Go Go.Proofs Abs
open Nat renaming reduceEqDiff → zqa, reduceLT → zqb, reduceAdd → zqc, reduceMul → zqd, reduceSub → zqe, reduceLeDiff → zqf, reduceSubDiff → zqg, reduceBEq → zqh
open Bool renaming not_eq_true' → zba, not_eq_false' → zbb, and_eq_true → zbc, or_eq_true → zbd, or_eq_false_iff → zbe
open Int renaming ofNat_lt → zia, ofNat_le → zib, not_lt → zic, not_le → zid
open Decidable renaming not_not → zda
set_option maxRecDepth 100000

def restR (p : Int) (R : List (List Int)) (a : List Int) : List Int := redD p ldG R.reverse a
def putStep (p : Int) (lead : Nat) (row : List Int) (s : List (List Int) × Bool) (r : List Int) : List (List Int) × Bool :=
  if s.2 = false ∧ kG lead < kG (ldG r) then (s.1 ++ [row] ++ [clr p lead row r], true) else (s.1 ++ [clr p lead row r], s.2)
def putQ (p : Int) (lead : Nat) (row : List Int) (R : List (List Int)) (k : Nat) : List (List Int) × Bool := (R.take k).foldl (putStep p lead row) ([], false)
theorem putQ_succ (p : Int) (lead : Nat) (row : List Int) (R : List (List Int)) {k : Nat} (h : k < R.length) : putQ p lead row R (k + 1) = putStep p lead row (putQ p lead row R k) (R.getD k []) := by
  rw [putQ, take_succ [] R k h, List.foldl_append]; rfl
def rowR (p : Int) (u : Nat) (R : List (List Int)) (a : List Int) : List Int := addD p (invN p ((restR p R a).getD (ldG (restR p R a)) 0)) (List.replicate (2 ^ u) 0) (restR p R a)
def putR (p : Int) (u : Nat) (R : List (List Int)) (a : List Int) : List (List Int) × Bool :=
  if ldI (restR p R a) < 0 then (R, false)
  else (let s := putQ p (ldG (restR p R a)) (rowR p u R a) R R.length; if s.2 then s.1 else s.1 ++ [rowR p u R a], true)
structure EchB (p : Int) (u : Nat) (R : List (List Int)) : Prop where
  ech : Ech p (2 ^ u) ldG R
  srt : R.Pairwise fun r s => kG (ldG r) < kG (ldG s)
theorem EchB.nil {p : Int} {u : Nat} : EchB p u [] := ⟨.nil, .nil⟩
theorem putQ_at (p : Int) (lead : Nat) (row : List Int) (R : List (List Int)) : ∀ k, k ≤ R.length →
    ((putQ p lead row R k).2 = false → (putQ p lead row R k).1 = (R.take k).map (clr p lead row) ∧ ∀ r ∈ R.take k, ¬ kG lead < kG (ldG r)) ∧
    ((putQ p lead row R k).2 = true → ∃ j, j < k ∧ (putQ p lead row R k).1 = (R.take j).map (clr p lead row) ++ row :: ((R.drop j).take (k - j)).map (clr p lead row) ∧ (∀ r ∈ R.take j, ¬ kG lead < kG (ldG r)) ∧ kG lead < kG (ldG (R.getD j [])))
  | 0, _ => ⟨fun _ => ⟨by simp [putQ], by simp⟩, fun h => by simp [putQ] at h⟩
  | k + 1, hk => by
    obtain ⟨h1, h2⟩ := putQ_at p lead row R k (by omega)
    rw [putQ_succ p lead row R (by omega)]
    have et := take_succ [] R k (by omega)
    generalize putQ p lead row R k = s at *
    obtain ⟨o, b⟩ := s
    simp only at h1 h2
    unfold putStep
    simp only
    cases b with
    | false =>
      obtain ⟨e1, e2⟩ := h1 rfl
      by_cases hl : kG lead < kG (ldG (R.getD k []))
      · rw [if_pos ⟨rfl, hl⟩]
        refine ⟨fun h => (by cases h), fun _ => ⟨k, by omega, ?_, e2, hl⟩⟩
        have : (R.drop k).take (k + 1 - k) = [R.getD k []] := by
          rw [show k + 1 - k = 1 by omega, List.drop_eq_getElem_cons (by omega), List.take_succ_cons, List.take_zero, List.getD_eq_getElem?_getD, List.getElem?_eq_getElem (by omega)]; rfl
        rw [this, e1]
        simp
      · rw [if_neg (fun h => hl h.2)]
        refine ⟨fun _ => ⟨by rw [e1, et, List.map_append]; rfl, fun r hr => ?_⟩, fun h => by cases h⟩
        rw [et] at hr
        rcases List.mem_append.1 hr with hr | hr
        · exact e2 r hr
        · rw [List.mem_singleton.1 hr]; exact hl
    | true =>
      obtain ⟨j, hj, e1, e2, e3⟩ := h2 rfl
      rw [if_neg (fun h => by cases h.1)]
      refine ⟨fun h => (by cases h), fun _ => ⟨j, by omega, ?_, e2, e3⟩⟩
      have : (R.drop j).take (k + 1 - j) = (R.drop j).take (k - j) ++ [R.getD k []] := by
        rw [show k + 1 - j = (k - j) + 1 by omega, take_succ [] (R.drop j) (k - j) (by rw [List.length_drop]; omega)]
        congr 2
        rw [List.getD_eq_getElem?_getD, List.getElem?_drop, show j + (k - j) = k by omega, List.getD_eq_getElem?_getD]
      rw [this, e1]
      simp
section
variable {p : Int} {u : Nat} (hp : p = 2 ∨ p = 3 ∨ p = 5) (hu : u ≤ 6)
include hp hu
theorem restR_facts {R : List (List Int)} {a : List Int} (h : Ech p (2 ^ u) ldG R) (ha : Vec p (2 ^ u) a) : Vec p (2 ^ u) (restR p R a) ∧ (ldI (restR p R a) < 0 ↔ Sp p (2 ^ u) R a) ∧ ∀ r ∈ R, (restR p R a).getD (ldG r) 0 = 0 := by
  have hr : Ech p (2 ^ u) ldG R.reverse := h.perm (List.reverse_perm R).symm
  have h1 : Vec p (2 ^ u) (restR p R a) := redD_vec (p := p) (by omega) ldG hr.vec ha
  refine ⟨h1, ?_, fun r hm => redD_lead (by omega) ldG hr.vec hr.tri ha r (List.mem_reverse.2 hm)⟩
  rw [ldI_neg, ← vec_zero_iff (p := p) h1.1]
  unfold restR
  rw [red_iff (by omega) ldG hr.vec hr.tri ha]
  exact SpEq.perm (by omega) hr.vec (List.reverse_perm R) a
theorem restR_nz {R : List (List Int)} {a : List Int} (h : Ech p (2 ^ u) ldG R) (ha : Vec p (2 ^ u) a) (hl : ¬ ldI (restR p R a) < 0) : 0 < (restR p R a).getD (ldG (restR p R a)) 0 ∧ (restR p R a).getD (ldG (restR p R a)) 0 < p ∧ ldG (restR p R a) < 2 ^ u := by
  obtain ⟨h1, _⟩ := restR_facts hp hu h ha
  obtain ⟨h2, h3, h4, _⟩ := (ldI_or (restR p R a)).resolve_left fun h => hl (by rw [h.1]; decide)
  have := h1.2 (ldG (restR p R a))
  exact ⟨by omega, this.2, by rw [← h1.1]; exact h3⟩
theorem putR_ok {R : List (List Int)} {a : List Int} (h : EchB p u R) (ha : Vec p (2 ^ u) a) : EchB p u (putR p u R a).1 ∧ SpEq p (2 ^ u) (putR p u R a).1 (R ++ [a]) ∧ ((putR p u R a).2 = false → (putR p u R a).1 = R) ∧ ((putR p u R a).2 = true → (putR p u R a).1.length = R.length + 1) := by
  have h64 := pow_le6 hu
  have hp1 : 1 < p := by omega
  obtain ⟨h1, hiff, hlead⟩ := restR_facts hp hu h.ech ha
  have hA : AllV p (2 ^ u) (R ++ [a]) := fun x hx => by
    rcases List.mem_append.1 hx with h4 | h4
    · exact h.ech.vec x h4
    · rw [List.mem_singleton.1 h4]; exact ha
  by_cases hl : ldI (restR p R a) < 0
  · unfold putR
    rw [if_pos hl]
    refine ⟨h, fun v => ⟨Sp.trans (by omega) hA fun r hr => Sp.self (by omega) hA (List.mem_append.2 (.inl hr)), Sp.trans (by omega) h.ech.vec fun r hr => ?_⟩, fun _ => rfl, fun h => (by cases h)⟩
    rcases List.mem_append.1 hr with h4 | h4
    · exact Sp.self (by omega) h.ech.vec h4
    · rw [List.mem_singleton.1 h4]; exact hiff.1 hl
  · obtain ⟨n1, n2, n3⟩ := restR_nz hp hu h.ech ha hl
    obtain ⟨i1, i2, i3, _⟩ := invN_ok hp ⟨n1, n2⟩
    have hkey := Ech.add (κ := kG) hp1 (lds_G h64) h.ech h1 (k := invN p ((restR p R a).getD (ldG (restR p R a)) 0)) hlead (by omega) (by rw [Int.mul_comm]; exact i3)
    change Vec p (2 ^ u) (rowR p u R a) ∧ ldG (rowR p u R a) = _ ∧ (∀ r ∈ R, ldG (clr p (ldG (restR p R a)) (rowR p u R a) r) = ldG r) ∧ Ech p (2 ^ u) ldG (R.map (clr p (ldG (restR p R a)) (rowR p u R a)) ++ [rowR p u R a]) at hkey
    obtain ⟨hrow, hld, hcd, hech⟩ := hkey
    have hspan : SpEq p (2 ^ u) (R.map (clr p (ldG (restR p R a)) (rowR p u R a)) ++ [rowR p u R a]) (R ++ [a]) := by
      have hr : Ech p (2 ^ u) ldG R.reverse := h.ech.perm (List.reverse_perm R).symm
      refine (sp_clr (p := p) (by omega) (ldG (restR p R a)) h.ech.vec hrow).trans ?_
      have e1 : SpEq p (2 ^ u) (R.reverse ++ [rowR p u R a]) (R.reverse ++ [a]) := sp_tri (p := p) (by omega) ldG hr.vec ha (k := invN p ((restR p R a).getD (ldG (restR p R a)) 0)) (c := (restR p R a).getD (ldG (restR p R a)) 0) (by rw [Int.mul_comm]; exact i3)
      have hB : AllV p (2 ^ u) (R ++ [rowR p u R a]) := h.ech.vec.app fun x hx => by rw [List.mem_singleton.1 hx]; exact hrow
      exact ((SpEq.perm (by omega) hB ((List.reverse_perm R).symm.append_right _)).trans e1).trans (SpEq.perm (by omega) hA ((List.reverse_perm R).symm.append_right _)).symm
    have hne : ∀ r ∈ R, ldG r ≠ ldG (restR p R a) := fun r hr e => by
      have := hlead r hr
      rw [e] at this
      omega
    have hfin : ∃ j, j ≤ R.length ∧ (putR p u R a).1 = (R.take j).map (clr p (ldG (restR p R a)) (rowR p u R a)) ++ rowR p u R a :: (R.drop j).map (clr p (ldG (restR p R a)) (rowR p u R a)) ∧ (∀ r ∈ R.take j, ¬ kG (ldG (restR p R a)) < kG (ldG r)) ∧ (j < R.length → kG (ldG (restR p R a)) < kG (ldG (R.getD j []))) := by
      obtain ⟨q1, q2⟩ := putQ_at p (ldG (restR p R a)) (rowR p u R a) R R.length (Nat.le_refl _)
      unfold putR
      rw [if_neg hl]
      simp only
      cases hb : (putQ p (ldG (restR p R a)) (rowR p u R a) R R.length).2 with
      | false =>
        obtain ⟨e1, e2⟩ := q1 hb
        rw [if_neg (by decide), e1]
        refine ⟨R.length, Nat.le_refl _, by simp, e2, fun h => by omega⟩
      | true =>
        obtain ⟨j, hj, e1, e2, e3⟩ := q2 hb
        have ht : (R.drop j).take (R.length - j) = R.drop j := List.take_of_length_le (by rw [List.length_drop]; omega)
        rw [if_pos rfl, e1, ht]
        exact ⟨j, by omega, rfl, e2, fun _ => e3⟩
    have h2 : (putR p u R a).2 = true := by unfold putR; rw [if_neg hl]
    obtain ⟨j, hj, e1, e2, e3⟩ := hfin
    have hperm : (R.map (clr p (ldG (restR p R a)) (rowR p u R a)) ++ [rowR p u R a]).Perm (putR p u R a).1 := by
      rw [e1]
      refine (List.perm_append_comm (l₁ := R.map _) (l₂ := [rowR p u R a])).trans ?_
      rw [List.singleton_append]
      refine List.Perm.trans ?_ (List.perm_middle).symm
      rw [← List.map_append, List.take_append_drop]
    refine ⟨⟨hech.perm hperm, ?_⟩, ?_, fun h => (by rw [h2] at h; cases h), fun _ => ?_⟩
    · rw [e1]
      have hs := h.srt
      rw [← List.take_append_drop j R, List.pairwise_append] at hs
      obtain ⟨s1, s2, s3⟩ := hs
      have ht : ∀ r ∈ R.take j, kG (ldG r) < kG (ldG (restR p R a)) := fun r hr => by
        have h5 := e2 r hr
        have h6 := List.mem_of_mem_take hr
        have h7 : kG (ldG r) ≠ kG (ldG (restR p R a)) := fun e => by
          obtain ⟨_, h8, _⟩ := (ldI_or r).resolve_left fun e => h.ech.nz h6 (by rw [e.1]; decide)
          exact hne r h6 (kG_inj (by have := (h.ech.vec r h6).1; omega) (by omega) e)
        omega
      have hd : ∀ r ∈ R.drop j, kG (ldG (restR p R a)) < kG (ldG r) := fun r hr => by
        by_cases hjl : j < R.length
        · have h5 := e3 hjl
          rw [List.drop_eq_getElem_cons hjl] at hr s2
          have e4 : R.getD j [] = R[j] := by rw [List.getD_eq_getElem?_getD, List.getElem?_eq_getElem hjl]; rfl
          rw [e4] at h5
          rcases List.mem_cons.1 hr with rfl | hr
          · exact h5
          · have := (List.pairwise_cons.1 s2).1 r hr; omega
        · rw [List.drop_of_length_le (by omega)] at hr; cases hr
      rw [List.pairwise_append]
      refine ⟨?_, ?_, ?_⟩
      · rw [List.pairwise_map]
        refine List.Pairwise.imp_of_mem (fun {x y} hx hy hxy => ?_) s1
        rw [hcd x (List.mem_of_mem_take hx), hcd y (List.mem_of_mem_take hy)]; exact hxy
      · rw [List.pairwise_cons]
        refine ⟨fun x hx => ?_, ?_⟩
        · obtain ⟨r, hr, rfl⟩ := List.mem_map.1 hx
          rw [hcd r (List.mem_of_mem_drop hr), hld]; exact hd r hr
        · rw [List.pairwise_map]
          refine List.Pairwise.imp_of_mem (fun {x y} hx hy hxy => ?_) s2
          rw [hcd x (List.mem_of_mem_drop hx), hcd y (List.mem_of_mem_drop hy)]; exact hxy
      · intro x hx y hy
        obtain ⟨r, hr, rfl⟩ := List.mem_map.1 hx
        have h8 := ht r hr
        rw [hcd r (List.mem_of_mem_take hr)]
        rcases List.mem_cons.1 hy with rfl | hy
        · rw [hld]; exact h8
        · obtain ⟨s, hs, rfl⟩ := List.mem_map.1 hy
          have h9 := hd s hs
          rw [hcd s (List.mem_of_mem_drop hs)]; omega
    · exact (SpEq.perm (by omega) hech.vec hperm).symm.trans hspan
    · have := hperm.length_eq
      simp only [List.length_append, List.length_map, List.length_singleton] at this
      omega
end
def keepR (p : Int) (u : Nat) (hp : p = 2 ∨ p = 3 ∨ p = 5) (hu : u ≤ 6) : Keep p u (List (List Int)) where
  rows := id
  inv := EchB p u
  put := putR p u
  ech := fun _ h => h.ech
  ok := fun _ _ h ha => ⟨(putR_ok hp hu h ha).1, (putR_ok hp hu h ha).2.1⟩
  no := fun _ _ h ha => (putR_ok hp hu h ha).2.2.1
  yes := fun _ _ h ha => (putR_ok hp hu h ha).2.2.2
end Abs.Y

namespace Abs.Y
open Go Go.Proofs Abs
open Nat renaming reduceEqDiff → zqa, reduceLT → zqb, reduceAdd → zqc, reduceMul → zqd, reduceSub → zqe, reduceLeDiff → zqf, reduceSubDiff → zqg, reduceBEq → zqh
open Bool renaming not_eq_true' → zba, not_eq_false' → zbb, and_eq_true → zbc, or_eq_true → zbd, or_eq_false_iff → zbe
open Int renaming ofNat_lt → zia, ofNat_le → zib, not_lt → zic, not_le → zid
open Decidable renaming not_not → zda
set_option maxRecDepth 100000

def Barr (p : Int) (u : Nat) (d : Int) (cs L : List (List Int)) (R : List (List Int)) : Prop :=
  (∀ a ∈ L, degD a ≤ d) ∧ (∀ a ∈ clausesD p u d cs, Sp p (2 ^ u) R a) ∧ Closed p u d R ∧ ¬ Sp p (2 ^ u) R (monoD u 0)
end Abs.Y

namespace Abs.Y
open Go Go.Proofs Abs
open Nat renaming reduceEqDiff → zqa, reduceLT → zqb, reduceAdd → zqc, reduceMul → zqd, reduceSub → zqe, reduceLeDiff → zqf, reduceSubDiff → zqg, reduceBEq → zqh
open Bool renaming not_eq_true' → zba, not_eq_false' → zbb, and_eq_true → zbc, or_eq_true → zbd, or_eq_false_iff → zbe
open Int renaming ofNat_lt → zia, ofNat_le → zib, not_lt → zic, not_le → zid
open Decidable renaming not_not → zda
set_option maxRecDepth 100000

def cmpI (x y : Int) : Int := if x < y then -1 else if y < x then 1 else 0
def orI (x y : Int) : Int := if x ≠ 0 then x else y
theorem isNaN_ok (x : Int) : Ctr Tryz.prog 81 [.int .i64 x] false (.d (.bool false)) [] := by
  refine Ctr.of (n := 6) (rs := [.tmp 2]) Tryz.func81 rfl rfl Tryz.ntmps81 rfl rfl (by kernel_rfl) Tryz.checked.mixed ?_
  simp (disch := first | omega | decide +kernel) only [go_sem, zqa, zqb, zqc, zqd, zqe, ↓reduceIte, reduceCtorEq, zqf, zqg, zqh]
  (repeat' (first | ((first | (refine gsel_split (fun q' => ?_) (fun q' => ?_) <;> (have h' := q') <;> (try simp only [decide_eq_true_eq, decide_eq_false_iff_not, zba, zbb, bne_iff_ne, ne_eq, beq_iff_eq, bne_eq_false_iff_eq, beq_eq_false_iff_ne, zia, zib, zic, zid, zda, zbc, zbd, zbe, gt_iff_lt, ge_iff_le] at h')) | (have q' := trivial; first | refine hE _ _ ret_ne ?_ | refine hE _ _ exit_ne ?_)) <;> (try simp (disch := first | omega | decide +kernel) only [q', go_sem, zqa, zqb, zqc, zqd, zqe, ↓reduceIte, reduceCtorEq, zqf, zqg, zqh]) <;> clear q') | (refine hN _ ?_ ?_ Wk.kk) | (with_reducible refine And.intro ?_ ?_) | (with_reducible omega) | (exact ok_ints) | (exact cells_ints) | (exact no_mem) | (with_reducible exact plain_ints) | (refine le_maxLen ?_; omega) | (refine List.forall_mem_cons.2 ⟨?_, ?_⟩) | (simp only [go_sem, zqc, zqb, List.mem_cons, List.not_mem_nil, forall_eq]; done)))
  all_goals (first | (simp; done))
theorem compare_ok (x y : Int) : Ctr Tryz.prog 57 [.int .i64 x, .int .i64 y] false (.d (.int .i64 (cmpI x y))) [] := by
  have c1 := fun x => isNaN_ok x
  unfold cmpI
  refine Ctr.of (n := 20) (rs := [.tmp 4]) Tryz.func57 rfl rfl Tryz.ntmps57 rfl rfl (by kernel_rfl) Tryz.checked.mixed ?_
  simp (disch := first | omega | decide +kernel) only [go_sem, zqa, zqb, zqc, zqd, zqe, ↓reduceIte, reduceCtorEq, zqf, zqg, zqh]
  (repeat' (first | ((first | (refine gsel_split (fun q' => ?_) (fun q' => ?_) <;> (have h' := q') <;> (try simp only [decide_eq_true_eq, decide_eq_false_iff_not, zba, zbb, bne_iff_ne, ne_eq, beq_iff_eq, bne_eq_false_iff_eq, beq_eq_false_iff_ne, zia, zib, zic, zid, zda, zbc, zbd, zbe, gt_iff_lt, ge_iff_le] at h')) | (have q' := trivial; first | refine callX_new (c1 _) rfl (by decide) ?_ | refine callY_new (c1 _) rfl ?_ | refine hE _ _ ret_ne ?_ | refine hE _ _ exit_ne ?_)) <;> (try simp (disch := first | omega | decide +kernel) only [q', go_sem, zqa, zqb, zqc, zqd, zqe, ↓reduceIte, reduceCtorEq, zqf, zqg, zqh]) <;> clear q') | (refine hN _ ?_ ?_ Wk.kk) | (with_reducible refine And.intro ?_ ?_) | (with_reducible omega) | (exact ok_ints) | (exact cells_ints) | (exact no_mem) | (with_reducible exact plain_ints) | (refine le_maxLen ?_; omega) | (refine List.forall_mem_cons.2 ⟨?_, ?_⟩) | (simp only [go_sem, zqc, zqb, List.mem_cons, List.not_mem_nil, forall_eq]; done)))
  all_goals (first | (simp_all [D.plain]; done) | (split <;> first | omega | (split <;> first | omega | rfl) | rfl))
theorem orL_ok (xs : List Int) (hl : xs.length ≤ 4294967296) : Ctr Tryz.prog 56 [.ints xs] false (.d (.int .i64 ((xs.find? (fun x => decide (x ≠ 0))).getD 0))) [] := by
  refine Ctr.of (n := 18) (rs := [.tmp 2]) Tryz.func56 rfl rfl Tryz.ntmps56 rfl rfl (by kernel_rfl) Tryz.checked.mixed ?_
  simp (disch := first | omega | decide +kernel) only [D.ints, go_sem, zqa, zqb, zqc, zqd, zqe, ↓reduceIte, reduceCtorEq, zqf, zqg, zqh]
  refine Ok.loopC [16, 15, 14, 13, 12, 11, 10, 9, 8, 5, 4, 2, 1, 0] (fun i => [(8, .d (.int .i64 (i : Nat)))]) xs.length (fun i => (xs.drop i).find? (fun x => decide (x ≠ 0)) = xs.find? (fun x => decide (x ≠ 0))) rfl (Wk.kk) ?_
  intro R i hN hE hi hI
  by_cases hlt : i < xs.length
  · rw [drop_cons 0 xs i hlt, List.find?_cons] at hI
    simp (disch := first | omega | decide +kernel) only [D.ints, go_sem, zqa, zqb, zqc, zqd, zqe, ↓reduceIte, reduceCtorEq, zqf, zqg, zqh]
    (repeat' (first | ((first | (refine gsel_split (fun q' => ?_) (fun q' => ?_) <;> (have h' := q') <;> (try simp only [decide_eq_true_eq, decide_eq_false_iff_not, zba, zbb, bne_iff_ne, ne_eq, beq_iff_eq, bne_eq_false_iff_eq, beq_eq_false_iff_ne, zia, zib, zic, zid, zda, zbc, zbd, zbe, gt_iff_lt, ge_iff_le] at h')) | (have q' := trivial; first | refine hE _ _ ret_ne ?_ | refine hE _ _ exit_ne ?_)) <;> (try simp (disch := first | omega | decide +kernel) only [q', go_sem, zqa, zqb, zqc, zqd, zqe, ↓reduceIte, reduceCtorEq, zqf, zqg, zqh]) <;> clear q') | (refine hN _ ?_ ?_ Wk.kk) | (with_reducible refine And.intro ?_ ?_) | (with_reducible omega) | (exact ok_ints) | (exact cells_ints) | (exact no_mem) | (with_reducible exact plain_ints) | (refine le_maxLen ?_; omega) | (refine List.forall_mem_cons.2 ⟨?_, ?_⟩) | (simp only [go_sem, zqc, zqb, List.mem_cons, List.not_mem_nil, forall_eq]; done)))
    · rw [decide_eq_true h'] at hI
      rw [← hI]; rfl
    · rw [decide_eq_false (fun h => h h')] at hI
      exact hI
  · rw [List.drop_eq_nil_of_le (by omega)] at hI
    simp (disch := first | omega | decide +kernel) only [D.ints, go_sem, zqa, zqb, zqc, zqd, zqe, ↓reduceIte, reduceCtorEq, zqf, zqg, zqh]
    (repeat' (first | ((first | (refine gsel_split (fun q' => ?_) (fun q' => ?_) <;> (have h' := q') <;> (try simp only [decide_eq_true_eq, decide_eq_false_iff_not, zba, zbb, bne_iff_ne, ne_eq, beq_iff_eq, bne_eq_false_iff_eq, beq_eq_false_iff_ne, zia, zib, zic, zid, zda, zbc, zbd, zbe, gt_iff_lt, ge_iff_le] at h')) | (have q' := trivial; first | refine hE _ _ ret_ne ?_ | refine hE _ _ exit_ne ?_)) <;> (try simp (disch := first | omega | decide +kernel) only [q', go_sem, zqa, zqb, zqc, zqd, zqe, ↓reduceIte, reduceCtorEq, zqf, zqg, zqh]) <;> clear q') | (refine hN _ ?_ ?_ Wk.kk) | (with_reducible refine And.intro ?_ ?_) | (with_reducible omega) | (exact ok_ints) | (exact cells_ints) | (exact no_mem) | (with_reducible exact plain_ints) | (refine le_maxLen ?_; omega) | (refine List.forall_mem_cons.2 ⟨?_, ?_⟩) | (simp only [go_sem, zqc, zqb, List.mem_cons, List.not_mem_nil, forall_eq]; done)))
    rw [← hI]; rfl
theorem or_ok (x y : Int) : Ctr Tryz.prog 56 [.slice [.int .i64 x, .int .i64 y]] false (.d (.int .i64 (orI x y))) [] := by
  have h := orL_ok [x, y] (by simp)
  have e : ([x, y].find? (fun x => decide (x ≠ 0))).getD 0 = orI x y := by
    unfold orI
    by_cases h1 : x = 0 <;> by_cases h2 : y = 0 <;> simp [h1, h2]
  rw [e] at h
  exact h
end Abs.Y
