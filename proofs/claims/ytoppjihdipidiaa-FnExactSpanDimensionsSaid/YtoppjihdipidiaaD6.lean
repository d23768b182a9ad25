/- What functions of this program compute, as contracts over plain data, with what the proofs need of them. No condition. -/
import Derived.Test.YtoppjihdipidiaaA2
import Derived.Test.YtoppjihdipidiaaV12
set_option linter.all false
namespace Abs.Y
open Go Go.Proofs Abs
open Nat (reduceEqDiff reduceLT reduceAdd reduceMul reduceSub reduceLeDiff reduceSubDiff)
set_option maxRecDepth 100000

def sumR (k : Nat) (f : Nat → Int) : Int := (List.range k).foldl (fun s i => s + f i) 0
theorem sumR_succ (k : Nat) (f : Nat → Int) : sumR (k + 1) f = sumR k f + f k := by
  rw [sumR, List.range_succ, List.foldl_append]; rfl
theorem sumR_congr {k : Nat} {f g : Nat → Int} (h : ∀ i, i < k → f i = g i) : sumR k f = sumR k g := by
  induction k with
  | zero => rfl
  | succ k ih => rw [sumR_succ, sumR_succ, ih fun i hi => h i (by omega), h k (by omega)]
theorem sumR_mul (k : Nat) (c : Int) (f : Nat → Int) : sumR k (fun i => c * f i) = c * sumR k f := by
  induction k with
  | zero => simp [sumR]
  | succ k ih => rw [sumR_succ, sumR_succ, ih]; grind
theorem st_fold {p : Int} (hp : 0 < p) {n : Nat} (g : Nat → Nat) (h : Nat → Int) {v : List Int} (hv : Vec p n v) (k j : Nat) (hj : j < n) :
    ((List.range k).foldl (fun v i => stP p v (g i) (h i)) v).getD j 0 = (v.getD j 0 + sumR k (fun i => if g i = j then h i else 0)) % p := by
  induction k with
  | zero =>
    have := hv.2 j
    simp only [List.range_zero, List.foldl_nil, sumR, Int.add_zero]
    rw [Int.emod_eq_of_lt this.1 this.2]
  | succ k ih =>
    rw [List.range_succ, List.foldl_append, sumR_succ]
    simp only [List.foldl_cons, List.foldl_nil]
    have hw : Vec p n ((List.range k).foldl (fun v i => stP p v (g i) (h i)) v) := fold_vec (fun v m h => h.st hp _ _) _ hv
    generalize (List.range k).foldl (fun v i => stP p v (g i) (h i)) v = w at *
    unfold stP
    rw [getD_set]
    by_cases e : g k = j
    · rw [if_pos ⟨e, by rw [hw.1]; exact hj⟩, if_pos e, e, ih, Int.emod_add_emod]
      congr 1; omega
    · rw [if_neg (fun h => e h.1), if_neg e, ih, Int.add_zero]
def shD (b : List Int) (m j : Nat) : Int := sumR b.length fun i => if m ||| i = j then b.getD i 0 else 0
theorem row_get {p : Int} (hp : 0 < p) {n : Nat} {v b : List Int} (hv : Vec p n v) (m : Nat) (c : Int) (j : Nat) (hj : j < n) : (rowD p b m c v).getD j 0 = (v.getD j 0 + c * shD b m j) % p := by
  unfold rowD
  rw [st_fold hp (fun i => m ||| i) (fun i => c * b.getD i 0) hv b.length j hj]
  congr 2
  unfold shD
  rw [← sumR_mul]
  exact sumR_congr fun i _ => by split <;> simp
theorem mul_get {p : Int} (hp : 0 < p) {n : Nat} {a b : List Int} (j : Nat) (hj : j < n) : (mulD p n a b).getD j 0 = sumR a.length (fun m => a.getD m 0 * shD b m j) % p := by
  have key : ∀ k, ((List.range k).foldl (fun v m => rowD p b m (a.getD m 0) v) (List.replicate n 0)).getD j 0 = sumR k (fun m => a.getD m 0 * shD b m j) % p := by
    intro k
    induction k with
    | zero =>
      show (List.replicate n (0 : Int)).getD j 0 = _
      rw [getD_rep]; simp [sumR]
    | succ k ih =>
      rw [List.range_succ, List.foldl_append, sumR_succ]
      simp only [List.foldl_cons, List.foldl_nil]
      have hw : Vec p n ((List.range k).foldl (fun v m => rowD p b m (a.getD m 0) v) (List.replicate n 0)) := fold_vec (fun v m h => h.rowD hp b m _) _ (Vec.zero hp n)
      rw [row_get hp hw _ _ j hj, ih, Int.emod_add_emod]
  exact key a.length
theorem sumR_lin {p k : Int} (K : Nat) (c a a' G : Nat → Int) (h : ∀ m, ∃ t, c m = a m + k * a' m + p * t) : ∃ T, sumR K (fun m => c m * G m) = sumR K (fun m => a m * G m) + k * sumR K (fun m => a' m * G m) + p * T := by
  induction K with
  | zero => exact ⟨0, by simp [sumR]⟩
  | succ K ih =>
    obtain ⟨T, hT⟩ := ih
    obtain ⟨t, ht⟩ := h K
    refine ⟨T + t * G K, ?_⟩
    rw [sumR_succ, sumR_succ, sumR_succ, hT, ht]; grind
theorem mul_lin {p k : Int} (hp : 0 < p) {n : Nat} {a a' : List Int} (b : List Int) (ha : a.length = n) (ha' : a'.length = n) : mulD p n (addD p k a a') b = addD p k (mulD p n a b) (mulD p n a' b) := by
  have h1 := Vec.mulD (p := p) hp n (addD p k a a') b
  have h2 := Vec.mulD (p := p) hp n a b
  have h3 := Vec.mulD (p := p) hp n a' b
  refine vec_ext (p := p) (n := n) h1.1 (by rw [addD_len (by rw [h2.1, h3.1]), h2.1]) fun j => ?_
  by_cases hj : j < n
  · rw [addD_get (by rw [h2.1, h3.1]), mul_get hp j hj, mul_get hp j hj, mul_get hp j hj, addD_len (by omega), ha, ha']
    obtain ⟨T, hT⟩ := sumR_lin (p := p) (k := k) n (fun m => (addD p k a a').getD m 0) (fun m => a.getD m 0) (fun m => a'.getD m 0) (fun m => shD b m j) fun m => by
      obtain ⟨t, e⟩ := emod_wit p (a.getD m 0 + k * a'.getD m 0)
      exact ⟨t, by rw [addD_get (by omega), e]⟩
    rw [hT]
    obtain ⟨t1, e1⟩ := emod_wit p (sumR n (fun m => a.getD m 0 * shD b m j))
    obtain ⟨t2, e2⟩ := emod_wit p (sumR n (fun m => a'.getD m 0 * shD b m j))
    rw [e1, e2]
    exact emod_eq_of (T - t1 - k * t2) (by grind)
  · rw [getD_oob (by rw [h1.1]; omega), getD_oob (by rw [addD_len (by rw [h2.1, h3.1]), h2.1]; omega)]
theorem mul_zero {p : Int} (hp : 0 < p) {n : Nat} (b : List Int) : mulD p n (List.replicate n 0) b = List.replicate n 0 := by
  have h1 := Vec.mulD (p := p) hp n (List.replicate n 0) b
  refine vec_ext (p := p) (n := n) h1.1 (by simp) fun j => ?_
  rw [getD_rep]
  by_cases hj : j < n
  · rw [mul_get hp j hj, sumR_congr (g := fun _ => 0 * 0) fun i _ => by rw [getD_rep]; simp]
    rw [sumR_mul]; simp
  · exact getD_oob (by rw [h1.1]; omega)

def kG (m : Nat) : Nat := cnt m * 64 + m
theorem kG_inj {i j : Nat} (hi : i < 64) (hj : j < 64) (h : kG i = kG j) : i = j := by unfold kG at h; omega
theorem kG_lt {i j : Nat} (hi : i < 64) (hj : j < 64) : kG i < kG j ↔ cnt i < cnt j ∨ (cnt i = cnt j ∧ i < j) := by unfold kG; omega
def ldI (v : List Int) : Int := (List.range v.length).foldl (fun o m => if v.getD m 0 ≠ 0 ∧ (o < 0 ∨ kG o.toNat < kG m) then (m : Int) else o) (-1)
def ldG (v : List Int) : Nat := (ldI v).toNat
theorem ldI_inv (v : List Int) (k : Nat) : let o := (List.range k).foldl (fun o m => if v.getD m 0 ≠ 0 ∧ (o < 0 ∨ kG o.toNat < kG m) then (m : Int) else o) (-1)
    (o = -1 ∧ ∀ i, i < k → v.getD i 0 = 0) ∨ ∃ m : Nat, o = m ∧ m < k ∧ v.getD m 0 ≠ 0 ∧ ∀ i, i < k → v.getD i 0 ≠ 0 → kG i ≤ kG m := by
  induction k with
  | zero => exact .inl ⟨rfl, fun i hi => by omega⟩
  | succ k ih =>
    rw [List.range_succ, List.foldl_append]
    simp only [List.foldl_cons, List.foldl_nil] at ih ⊢
    generalize (List.range k).foldl (fun o m => if v.getD m 0 ≠ 0 ∧ (o < 0 ∨ kG o.toNat < kG m) then (m : Int) else o) (-1) = o at *
    rcases ih with ⟨rfl, h⟩ | ⟨m, rfl, hm, hv, h⟩
    · by_cases e : v.getD k 0 = 0
      · rw [if_neg (fun h => h.1 e)]
        refine .inl ⟨rfl, fun i hi => ?_⟩
        by_cases e2 : i = k
        · rw [e2]; exact e
        · exact h i (by omega)
      · rw [if_pos ⟨e, .inl (by decide)⟩]
        refine .inr ⟨k, rfl, by omega, e, fun i hi h2 => ?_⟩
        by_cases e2 : i = k
        · rw [e2]; exact Nat.le_refl _
        · exact absurd (h i (by omega)) h2
    · by_cases e : v.getD k 0 ≠ 0 ∧ ((m : Int) < 0 ∨ kG (m : Int).toNat < kG k)
      · rw [if_pos e]
        have h3 : kG m < kG k := by
          rcases e.2 with h | h
          · omega
          · simpa using h
        refine .inr ⟨k, rfl, by omega, e.1, fun i hi h2 => ?_⟩
        by_cases e2 : i = k
        · rw [e2]; exact Nat.le_refl _
        · exact Nat.le_trans (h i (by omega) h2) (Nat.le_of_lt h3)
      · rw [if_neg e]
        refine .inr ⟨m, rfl, by omega, hv, fun i hi h2 => ?_⟩
        by_cases e2 : i = k
        · subst e2
          have : ¬ kG m < kG i := fun h4 => e ⟨h2, .inr (by simpa using h4)⟩
          omega
        · exact h i (by omega) h2
theorem ldI_or (v : List Int) : (ldI v = -1 ∧ ∀ i, v.getD i 0 = 0) ∨ (ldI v = (ldG v : Nat) ∧ ldG v < v.length ∧ v.getD (ldG v) 0 ≠ 0 ∧ ∀ i, v.getD i 0 ≠ 0 → kG i ≤ kG (ldG v)) := by
  rcases ldI_inv v v.length with ⟨h1, h2⟩ | ⟨m, h1, h2, h3, h4⟩
  · refine .inl ⟨h1, fun i => ?_⟩
    by_cases hi : i < v.length
    · exact h2 i hi
    · exact getD_oob (by omega)
  · have e : ldI v = (m : Int) := h1
    have e2 : ldG v = m := by unfold ldG; rw [e]; simp
    rw [e2]
    exact .inr ⟨e, h2, h3, fun i hi => h4 i (lt_of_get hi) hi⟩
theorem ldI_neg {v : List Int} : ldI v < 0 ↔ ∀ i, v.getD i 0 = 0 := by
  rcases ldI_or v with ⟨h1, h2⟩ | ⟨h1, h2, h3, h4⟩
  · exact ⟨fun _ => h2, fun _ => by rw [h1]; decide⟩
  · exact ⟨fun h => by omega, fun h => absurd (h _) h3⟩
theorem lds_G {n : Nat} (hn : n ≤ 64) : Lds kG n ldG := by
  refine ⟨fun i j hi hj h => kG_inj (by omega) (by omega) h, fun v hv i hi => ?_⟩
  rcases ldI_or v with ⟨_, h2⟩ | ⟨_, _, h3, h4⟩
  · exact absurd (h2 i) hi
  · exact ⟨h3, h4 i hi⟩
theorem degD_max (v : List Int) (k : Nat) : let d := (List.range k).foldl (fun d m => if v.getD m 0 = 0 then d else max d (cnt m : Int)) (-1)
    (∀ i, i < k → v.getD i 0 ≠ 0 → (cnt i : Int) ≤ d) ∧ -1 ≤ d ∧ (d = -1 ∨ ∃ i, i < k ∧ v.getD i 0 ≠ 0 ∧ d = cnt i) := by
  induction k with
  | zero => exact ⟨fun i hi => by omega, by simp, .inl rfl⟩
  | succ k ih =>
    rw [List.range_succ, List.foldl_append]
    simp only [List.foldl_cons, List.foldl_nil] at ih ⊢
    generalize (List.range k).foldl (fun d m => if v.getD m 0 = 0 then d else max d (cnt m : Int)) (-1) = d at *
    obtain ⟨h1, h2, h3⟩ := ih
    by_cases e : v.getD k 0 = 0
    · rw [if_pos e]
      refine ⟨fun i hi hv => ?_, h2, ?_⟩
      · by_cases e2 : i = k
        · rw [e2] at hv; exact absurd e hv
        · exact h1 i (by omega) hv
      · rcases h3 with h3 | ⟨i, h4, h5⟩
        · exact .inl h3
        · exact .inr ⟨i, by omega, h5⟩
    · rw [if_neg e]
      refine ⟨fun i hi hv => ?_, by omega, .inr ?_⟩
      · by_cases e2 : i = k
        · rw [e2]; omega
        · have := h1 i (by omega) hv; omega
      · by_cases e3 : d < (cnt k : Int)
        · exact ⟨k, by omega, e, by omega⟩
        · rcases h3 with h3 | ⟨i, h4, h5, h6⟩
          · omega
          · exact ⟨i, by omega, h5, by omega⟩
theorem degD_ld {v : List Int} (hv : v.length ≤ 64) (h : ¬ ldI v < 0) : degD v = cnt (ldG v) := by
  rcases ldI_or v with ⟨h1, _⟩ | ⟨_, h2, h3, h4⟩
  · rw [h1] at h; exact absurd (by decide) h
  · obtain ⟨d1, _, d3⟩ := degD_max v v.length
    have e1 := d1 _ h2 h3
    rcases d3 with d3 | ⟨i, d4, d5, d6⟩
    · have : (0 : Int) ≤ cnt (ldG v) := by omega
      change (cnt (ldG v) : Int) ≤ degD v at e1
      change degD v = -1 at d3
      omega
    · change (cnt (ldG v) : Int) ≤ degD v at e1
      change degD v = _ at d6
      have h5 := h4 i d5
      unfold kG at h5
      have : cnt i ≤ cnt (ldG v) := by omega
      omega
theorem degD_get {v : List Int} {i : Nat} (h : v.getD i 0 ≠ 0) : (cnt i : Int) ≤ degD v := (degD_max v v.length).1 i (lt_of_get h) h
end Abs.Y

namespace Abs.Y
open Go Go.Proofs Abs
open Nat (reduceEqDiff reduceLT reduceAdd reduceMul reduceSub reduceLeDiff reduceSubDiff)
set_option maxRecDepth 100000

def mulX (p : Int) (u : Nat) (v : List Int) (x : Int) : List Int := mulD p (2 ^ u) v (litD p u x)
structure Cl (p : Int) (u : Nat) (cs : List (List Int)) (d : Int) (W : List Int → Prop) : Prop where
  zero : W (List.replicate (2 ^ u) 0)
  add : ∀ v w k, Vec p (2 ^ u) v → Vec p (2 ^ u) w → W v → W w → W (addD p k v w)
  cl : ∀ c ∈ cs, (c.length : Int) ≤ d → W (clauseD p u c)
  mul : ∀ v, Vec p (2 ^ u) v → W v → degD v < d → ∀ x : Int, 1 ≤ x → x ≤ u → W (mulX p u v x)
def Mn (p : Int) (u : Nat) (cs : List (List Int)) (d : Int) (v : List Int) : Prop := ∀ W, Cl p u cs d W → W v
theorem sp_ld {p : Int} {n : Nat} {R : List (List Int)} {v : List Int} (hp : 1 < p) (hn : n ≤ 64) (h : Ech p n ldG R) (hv : Sp p n R v) (hz : ¬ ldI v < 0) : ∃ s ∈ R, ldG s = ldG v := by
  have hvv := hv.vec (by omega) h.vec
  by_cases hh : ∃ s ∈ R, ldG s = ldG v
  · exact hh
  · exfalso
    obtain ⟨_, _, hv3, hv4⟩ := (ldI_or v).resolve_left fun h => hz (by rw [h.1]; decide)
    have key : ∀ (S : List (List Int)) (a : List Int), Ech p n ldG S → Vec p n a → (∀ s ∈ S, a.getD (ldG s) 0 = v.getD (ldG s) 0) → (∀ s ∈ S, ldG s ≠ ldG v) → (redD p ldG S a).getD (ldG v) 0 = a.getD (ldG v) 0 := by
      intro S
      induction S with
      | nil => exact fun a _ _ _ _ => rfl
      | cons r S ih =>
        intro a hS ha he hne
        have hr := hS.vec r (by simp)
        have hpw := List.pairwise_cons.1 hS.pw
        have hS' : Ech p n ldG S := ⟨fun x hx => hS.vec x (by simp [hx]), fun x hx => hS.one x (by simp [hx]), hpw.2⟩
        have hget : ∀ i, (addD p (p - a.getD (ldG r) 0) a r).getD i 0 = (a.getD i 0 + (p - a.getD (ldG r) 0) * r.getD i 0) % p := fun i => addD_get (by rw [ha.1, hr.1]) i
        rw [redD_cons, ih _ hS' (Vec.addD (by omega) ha.1 hr.1) (fun s hs => ?_) (fun s hs => hne s (by simp [hs]))]
        · rw [hget]
          have h1 := he r (by simp)
          have ha2 := ha.2 (ldG v)
          by_cases hc : v.getD (ldG r) 0 = 0
          · rw [h1, hc, Int.sub_zero, emod_eq_of (y := a.getD (ldG v) 0) (r.getD (ldG v) 0) rfl, Int.emod_eq_of_lt ha2.1 ha2.2]
          · have h2 := hv4 _ hc
            have h3 : r.getD (ldG v) 0 = 0 := by
              by_cases h5 : r.getD (ldG v) 0 = 0
              · exact h5
              · have h6 := ((lds_G hn).top r hr.1 _ h5).2
                have h7 := (lds_G hn).eq (v := v) hvv.1 hc fun i hi => Nat.le_trans (hv4 i hi) h6
                exact absurd h7.symm (hne r (by simp))
            rw [h3, Int.mul_zero, Int.add_zero, Int.emod_eq_of_lt ha2.1 ha2.2]
        · rw [hget, (hpw.1 s hs).2, Int.mul_zero, Int.add_zero]
          have ha2 := ha.2 (ldG s)
          rw [Int.emod_eq_of_lt ha2.1 ha2.2, he s (by simp [hs])]
    have h1 := key R v h hvv (fun s _ => rfl) fun s hs e => hh ⟨s, hs, e⟩
    rw [redD_sp (by omega) ldG h.vec h.tri hv, getD_rep] at h1
    exact hv3 h1.symm
theorem nodup_len : ∀ {l l' : List Nat}, l.Nodup → (∀ x ∈ l, x ∈ l') → l.length ≤ l'.length
  | [], _, _, _ => Nat.zero_le _
  | x :: r, l', h, hs => by
    rw [List.nodup_cons] at h
    have h1 := hs x (by simp)
    have h2 := nodup_len (l' := l'.erase x) h.2 fun y hy => (List.mem_erase_of_ne (fun e => h.1 (by rw [← e]; exact hy))).2 (hs y (by simp [hy]))
    rw [List.length_erase_of_mem h1] at h2
    have := List.length_pos_of_mem h1
    simp only [List.length_cons]; omega
theorem Ech.nodup {p : Int} {n : Nat} {R : List (List Int)} (h : Ech p n ldG R) : (R.map ldG).Nodup := by
  rw [List.nodup_iff_pairwise_ne, List.pairwise_map]
  refine List.Pairwise.imp_of_mem (fun {a b} ha hb hab e => ?_) h.pw
  have := h.one b hb
  rw [← e, hab.1] at this
  exact absurd this (by decide)
theorem Ech.nz {p : Int} {n : Nat} {R : List (List Int)} (h : Ech p n ldG R) {r : List Int} (hr : r ∈ R) : ¬ ldI r < 0 := fun hn => by
  have := h.one r hr
  rw [ldI_neg.1 hn] at this
  exact absurd this (by decide)
theorem ech_le {p : Int} {n : Nat} {R R' : List (List Int)} (hp : 1 < p) (hn : n ≤ 64) (h : Ech p n ldG R) (h' : Ech p n ldG R') (hs : ∀ v, Sp p n R v → Sp p n R' v) : R.length ≤ R'.length := by
  have h1 := nodup_len (l := R.map ldG) (l' := R'.map ldG) h.nodup fun x hx => by
    obtain ⟨r, hr, rfl⟩ := List.mem_map.1 hx
    obtain ⟨s, h2, h3⟩ := sp_ld hp hn h' (hs r (Sp.self (by omega) h.vec hr)) (h.nz hr)
    rw [← h3]; exact List.mem_map_of_mem h2
  simpa using h1
theorem ech_len {p : Int} {n : Nat} {R R' : List (List Int)} (hp : 1 < p) (hn : n ≤ 64) (h : Ech p n ldG R) (h' : Ech p n ldG R') (hs : SpEq p n R R') : R.length = R'.length :=
  Nat.le_antisymm (ech_le hp hn h h' fun v => (hs v).1) (ech_le hp hn h' h fun v => (hs v).2)
theorem ech_bd {p : Int} {n : Nat} {R : List (List Int)} (hn : n ≤ 64) (h : Ech p n ldG R) : R.length ≤ n := by
  have h1 := nodup_len (l := R.map ldG) (l' := List.range n) h.nodup fun x hx => by
    obtain ⟨r, hr, rfl⟩ := List.mem_map.1 hx
    obtain ⟨_, h2, _⟩ := (ldI_or r).resolve_left fun e => h.nz hr (by rw [e.1]; decide)
    rw [List.mem_range, ← (h.vec r hr).1]; exact h2
  simpa using h1
theorem sp_deg {p : Int} {n : Nat} {R : List (List Int)} {v : List Int} (hp : 1 < p) (hn : n ≤ 64) (h : Ech p n ldG R) (hv : Sp p n R v) {d : Int} (hd : degD v < d) : Sp p n (R.filter fun r => decide (degD r < d)) v := by
  have hvv := hv.vec (by omega) h.vec
  have key : ∀ (S : List (List Int)) (a : List Int), Ech p n ldG S → Vec p n a → (∀ s ∈ S, ¬ degD s < d → a.getD (ldG s) 0 = 0) → redD p ldG S a = redD p ldG (S.filter fun r => decide (degD r < d)) a := by
    intro S
    induction S with
    | nil => exact fun a _ _ _ => rfl
    | cons r S ih =>
      intro a hS ha he
      have hr := hS.vec r (by simp)
      have hpw := List.pairwise_cons.1 hS.pw
      have hS' : Ech p n ldG S := ⟨fun x hx => hS.vec x (by simp [hx]), fun x hx => hS.one x (by simp [hx]), hpw.2⟩
      by_cases hdr : degD r < d
      · rw [List.filter_cons_of_pos (by simpa using hdr), redD_cons, redD_cons]
        refine ih _ hS' (Vec.addD (by omega) ha.1 hr.1) fun s hs hsd => ?_
        rw [addD_get (by rw [ha.1, hr.1]), he s (by simp [hs]) hsd, (hpw.1 s hs).2]; simp
      · rw [List.filter_cons_of_neg (by simpa using hdr), redD_cons, he r (by simp) hdr, Int.sub_zero, addD_mul 1 (by omega) ha hr.1]
        exact ih a hS' ha fun s hs hsd => he s (by simp [hs]) hsd
  have hF : AllV p n (R.filter fun r => decide (degD r < d)) := fun r hr => h.vec r (List.mem_filter.1 hr).1
  refine (redD_in (by omega) ldG hF hF (fun r hr => Sp.self (by omega) hF hr) hvv).1 ?_
  rw [← key R v h hvv fun s hs hsd => ?_, redD_sp (by omega) ldG h.vec h.tri hv]
  · exact .zero
  · by_cases hc : v.getD (ldG s) 0 = 0
    · exact hc
    · have h1 := degD_get hc
      have h2 := degD_ld (v := s) (by rw [(h.vec s hs).1]; exact hn) (h.nz hs)
      omega
theorem mulX_sp {p : Int} {u : Nat} {R S : List (List Int)} {v : List Int} (hp : 0 < p) (hR : AllV p (2 ^ u) R) (hS : AllV p (2 ^ u) S) (x : Int) (hs : ∀ s ∈ S, Sp p (2 ^ u) R (mulX p u s x)) (hv : Sp p (2 ^ u) S v) : Sp p (2 ^ u) R (mulX p u v x) := by
  induction hv with
  | zero => unfold mulX; rw [mul_zero hp]; exact .zero
  | add k h hr ih =>
    unfold mulX at ih ⊢
    rw [mul_lin hp _ (h.vec hp hS).1 (hS _ hr).1]
    exact ih.plus hp hR k (hs _ hr)
theorem sp_least {p : Int} {u : Nat} {cs R : List (List Int)} {d : Int} (hp : 1 < p) (hu : u ≤ 6) (h : Ech p (2 ^ u) ldG R) (h1 : ∀ r ∈ R, Mn p u cs d r) (h2 : ∀ c ∈ cs, (c.length : Int) ≤ d → Sp p (2 ^ u) R (clauseD p u c))
    (h3 : ∀ r ∈ R, degD r < d → ∀ x : Int, 1 ≤ x → x ≤ u → Sp p (2 ^ u) R (mulX p u r x)) (v : List Int) : Sp p (2 ^ u) R v ↔ Mn p u cs d v := by
  constructor
  · intro hv W hW
    induction hv with
    | zero => exact hW.zero
    | add k hv hr ih => exact hW.add _ _ k (hv.vec (by omega) h.vec) (h.vec _ hr) ih (h1 _ hr W hW)
  · intro hv
    refine hv (Sp p (2 ^ u) R) ⟨.zero, fun v w k _ _ hv hw => hv.plus (by omega) h.vec k hw, h2, fun v _ hv hd x hx1 hx2 => ?_⟩
    refine mulX_sp (S := R.filter fun r => decide (degD r < d)) (by omega) h.vec (fun r hr => h.vec r (List.mem_filter.1 hr).1) x (fun s hs => ?_) (sp_deg hp (pow_le6 hu) h hv hd)
    obtain ⟨hs1, hs2⟩ := List.mem_filter.1 hs
    exact h3 s hs1 (by simpa using hs2) x hx1 hx2
theorem mn_plus {p : Int} {u : Nat} {cs : List (List Int)} {d : Int} {v w : List Int} (k : Int) (hv : Vec p (2 ^ u) v) (hw : Vec p (2 ^ u) w) (h : Mn p u cs d v) (h' : Mn p u cs d w) : Mn p u cs d (addD p k v w) :=
  fun W hW => hW.add v w k hv hw (h W hW) (h' W hW)
theorem mn_sp {p : Int} {u : Nat} {cs R : List (List Int)} {d : Int} {v : List Int} (hp : 0 < p) (hR : AllV p (2 ^ u) R) (h : ∀ r ∈ R, Mn p u cs d r) (hv : Sp p (2 ^ u) R v) : Mn p u cs d v := by
  induction hv with
  | zero => exact fun W hW => hW.zero
  | add k hv hr ih => exact mn_plus k (hv.vec hp hR) (hR _ hr) ih (h _ hr)
end Abs.Y

namespace Abs.Y
open Go Go.Proofs Abs
open Nat (reduceEqDiff reduceLT reduceAdd reduceMul reduceSub reduceLeDiff reduceSubDiff)
set_option maxRecDepth 100000

theorem mem_spT {v : List Int} {t : (Int × Int)} : t ∈ spT v ↔ ∃ m : Nat, m < v.length ∧ v.getD m 0 ≠ 0 ∧ t = ((m : Int), v.getD m 0) := by
  unfold spT
  simp only [List.mem_map, List.mem_filter, List.mem_range, decide_eq_true_eq]
  constructor
  · rintro ⟨m, ⟨h1, h2⟩, rfl⟩; exact ⟨m, h1, h2, rfl⟩
  · rintro ⟨m, h1, h2, rfl⟩; exact ⟨m, ⟨h1, h2⟩, rfl⟩
theorem spT_at {v : List Int} {i : Nat} (h : i < (spT v).length) : ∃ m : Nat, m < v.length ∧ v.getD m 0 ≠ 0 ∧ (spT v).getD i (0, 0) = ((m : Int), v.getD m 0) :=
  mem_spT.1 (getD_mem (z := ((0, 0) : (Int × Int))) h)
theorem spT_has {v : List Int} {m : Nat} (h : v.getD m 0 ≠ 0) : ∃ i, i < (spT v).length ∧ (spT v).getD i (0, 0) = ((m : Int), v.getD m 0) := by
  obtain ⟨i, hi, he⟩ := mem_getD (z := ((0, 0) : (Int × Int))) (mem_spT.2 ⟨m, lt_of_get h, h, rfl⟩)
  exact ⟨i, hi, he⟩
theorem spT_nil {v : List Int} : spT v = [] ↔ ldI v < 0 := by
  rw [ldI_neg]
  constructor
  · intro h i
    by_cases hi : v.getD i 0 = 0
    · exact hi
    · obtain ⟨j, hj, _⟩ := spT_has hi
      rw [h] at hj; simp at hj
  · intro h
    cases hs : spT v with
    | nil => rfl
    | cons t r =>
      obtain ⟨m, _, h2, _⟩ := mem_spT.1 (show t ∈ spT v by rw [hs]; simp)
      exact absurd (h m) h2
theorem l20Before_ok {m n : Nat} (hm : m < 64) (hn : n < 64) : Ctr Try.prog 177 [.int .i64 m, .int .i64 n] false (.d (.bool (decide (kG m < kG n)))) [] := by
  have c1 := l14Count_ok hm
  have c2 := l14Count_ok hn
  have hk := kG_lt hm hn
  have h1 := cnt_le m
  have h2 := cnt_le n
  generalize kG m = x at *
  generalize kG n = y at *
  generalize cnt m = a at *
  generalize cnt n = b at *
  refine Ctr.of (n := 18) (rs := [.tmp 4]) Try.func177 rfl rfl Try.ntmps177 rfl rfl (by kernel_rfl) Try.checked.mixed ?_
  simp (disch := first | omega | decide +kernel) only [go_sem, reduceEqDiff, reduceLT, reduceAdd, reduceMul, reduceSub, ↓reduceIte, reduceCtorEq, reduceLeDiff, reduceSubDiff, Nat.reduceBEq]
  (repeat' (first | (refine gsel_split (fun h => ?_) (fun h => ?_) <;> (have h' := h) <;> (try simp only [decide_eq_true_eq, decide_eq_false_iff_not, Bool.not_eq_true', Bool.not_eq_false', bne_iff_ne, ne_eq, beq_iff_eq, bne_eq_false_iff_eq, beq_eq_false_iff_ne, Int.ofNat_lt, Int.ofNat_le, Int.not_lt, Int.not_le, Decidable.not_not, Bool.and_eq_true, Bool.or_eq_true, Bool.or_eq_false_iff, gt_iff_lt, ge_iff_le] at h') <;> first | (exfalso; omega) | (simp (disch := first | omega | decide +kernel) only [h, go_sem, reduceEqDiff, reduceLT, reduceAdd, reduceMul, reduceSub, ↓reduceIte, reduceCtorEq, reduceLeDiff, reduceSubDiff, Nat.reduceBEq] <;> clear h)) | ((first | refine callX_new (c1) rfl (by decide) ?_ | refine callY_new (c1) rfl ?_ | refine callX_new (c2) rfl (by decide) ?_ | refine callY_new (c2) rfl ?_ | refine hE _ _ ret_ne ?_ | refine hE _ _ exit_ne ?_) <;> try simp (disch := first | omega | decide +kernel) only [go_sem, reduceEqDiff, reduceLT, reduceAdd, reduceMul, reduceSub, ↓reduceIte, reduceCtorEq, reduceLeDiff, reduceSubDiff, Nat.reduceBEq]) | (refine hN _ ?_ ?_ Wk.kk) | (with_reducible refine And.intro ?_ ?_) | (with_reducible omega) | (exact ok_ints) | (exact cells_ints) | (exact no_mem) | (with_reducible exact plain_ints) | (refine le_maxLen ?_; omega) | (refine List.forall_mem_cons.2 ⟨?_, ?_⟩) | (simp only [go_sem, Nat.reduceAdd, Nat.reduceLT, List.mem_cons, List.not_mem_nil, forall_eq]; done)))
  all_goals (first | omega | (congr 1; rw [decide_eq_decide]; omega))
set_option maxHeartbeats 4000000 in
theorem l20Lead_ok {v : List Int} (hl : v.length ≤ 64) (hnz : ¬ ldI v < 0) : Ctr Try.prog 157 [D.tms (spT v)] false (.d (.int .i64 (ldG v))) [] := by
  have hne : spT v ≠ [] := fun h => hnz (spT_nil.1 h)
  have hlen : 0 < (spT v).length := List.length_pos_iff.2 hne
  have hlb := Tms.len (v := v) rfl hl
  obtain ⟨m0, h01, h02, h03⟩ := spT_at hlen
  have he0 := el_tm (xs := spT v) (i := 0) hlen
  rw [h03] at he0
  refine Ctr.of (n := 28) (rs := [.tmp 2]) Try.func157 rfl rfl Try.ntmps157 rfl rfl (by kernel_rfl) Try.checked.mixed ?_
  simp (disch := first | omega | decide +kernel) only [he0, go_sem, reduceEqDiff, reduceLT, reduceAdd, reduceMul, reduceSub, ↓reduceIte, reduceCtorEq, reduceLeDiff, reduceSubDiff, Nat.reduceBEq]
  (repeat' (first | (refine gsel_split (fun h => ?_) (fun h => ?_) <;> (have h' := h) <;> (try simp only [decide_eq_true_eq, decide_eq_false_iff_not, Bool.not_eq_true', Bool.not_eq_false', bne_iff_ne, ne_eq, beq_iff_eq, bne_eq_false_iff_eq, beq_eq_false_iff_ne, Int.ofNat_lt, Int.ofNat_le, Int.not_lt, Int.not_le, Decidable.not_not, Bool.and_eq_true, Bool.or_eq_true, Bool.or_eq_false_iff, gt_iff_lt, ge_iff_le] at h') <;> first | (exfalso; omega) | (simp (disch := first | omega | decide +kernel) only [h, he0, go_sem, reduceEqDiff, reduceLT, reduceAdd, reduceMul, reduceSub, ↓reduceIte, reduceCtorEq, reduceLeDiff, reduceSubDiff, Nat.reduceBEq] <;> clear h)) | ((first | refine hE _ _ ret_ne ?_ | refine hE _ _ exit_ne ?_) <;> try simp (disch := first | omega | decide +kernel) only [he0, go_sem, reduceEqDiff, reduceLT, reduceAdd, reduceMul, reduceSub, ↓reduceIte, reduceCtorEq, reduceLeDiff, reduceSubDiff, Nat.reduceBEq]) | (refine hN _ ?_ ?_ Wk.kk) | (with_reducible refine And.intro ?_ ?_) | (with_reducible omega) | (exact ok_ints) | (exact cells_ints) | (exact no_mem) | (with_reducible exact plain_ints) | (refine le_maxLen ?_; omega) | (refine List.forall_mem_cons.2 ⟨?_, ?_⟩) | (simp only [go_sem, Nat.reduceAdd, Nat.reduceLT, List.mem_cons, List.not_mem_nil, forall_eq]; done)))
  refine Ok.loopN [26, 25, 24, 23, 22, 21, 20, 19, 18, 17, 16, 15, 14, 13, 12, 11, 10, 9, 8, 7, 6, 5, 4, 3, 1] (fun i (k : Nat) => [(4, .d (.int .i64 ((i : Nat) + 1 : Int))), (3, .d (.int .i64 (k : Nat)))]) (fun _ _ => []) ((spT v).length - 1)
    (fun i k => k < v.length ∧ v.getD k 0 ≠ 0 ∧ ∀ j (m : Nat), j ≤ i → j < (spT v).length → ((spT v).getD j (0, 0)).1 = m → kG m ≤ kG k) m0 ⟨h01, h02, fun j m hj hj2 hm => by
      have : j = 0 := by omega
      rw [this, h03] at hm
      have : m = m0 := by simp only at hm; omega
      rw [this]; exact Nat.le_refl _⟩ (by refine Wk.auto ?_ ?_ <;> simp [extraK, lk, killL, St.kill, wipeO, wipeS, AV.has, AV.hasL, AO.wipe, List.map_set, updSt, insL, dropS, ins, ]) ?_
  rintro R i k hN hE hi ⟨hk1, hk2, hI⟩
  by_cases hlt : i + 1 < (spT v).length
  · obtain ⟨m, h1, h2, h3⟩ := spT_at hlt
    have hei := el_tm (xs := spT v) hlt
    rw [h3] at hei
    have hti : ((i : Int) + 1).toNat = i + 1 := by omega
    have c1 := l20Before_ok (m := k) (n := m) (by omega) (by omega)
    by_cases hb : kG k < kG m
    · rw [decide_eq_true hb] at c1
      have hI2 : ∀ j (m' : Nat), j ≤ i + 1 → j < (spT v).length → ((spT v).getD j (0, 0)).1 = m' → kG m' ≤ kG m := fun j m' hj hj2 hm => by
        by_cases e : j = i + 1
        · rw [e, h3] at hm
          have : m' = m := by simp only at hm; omega
          rw [this]; exact Nat.le_refl _
        · have := hI j m' (by omega) hj2 hm; omega
      clear hI
      simp (disch := first | omega | decide +kernel) only [hti, hei, go_sem, reduceEqDiff, reduceLT, reduceAdd, reduceMul, reduceSub, ↓reduceIte, reduceCtorEq, reduceLeDiff, reduceSubDiff, Nat.reduceBEq]
      (repeat' (first | (refine gsel_split (fun h => ?_) (fun h => ?_) <;> (have h' := h) <;> (try simp only [decide_eq_true_eq, decide_eq_false_iff_not, Bool.not_eq_true', Bool.not_eq_false', bne_iff_ne, ne_eq, beq_iff_eq, bne_eq_false_iff_eq, beq_eq_false_iff_ne, Int.ofNat_lt, Int.ofNat_le, Int.not_lt, Int.not_le, Decidable.not_not, Bool.and_eq_true, Bool.or_eq_true, Bool.or_eq_false_iff, gt_iff_lt, ge_iff_le] at h') <;> first | (exfalso; omega) | (simp (disch := first | omega | decide +kernel) only [h, hti, hei, go_sem, reduceEqDiff, reduceLT, reduceAdd, reduceMul, reduceSub, ↓reduceIte, reduceCtorEq, reduceLeDiff, reduceSubDiff, Nat.reduceBEq] <;> clear h)) | ((first | refine callX_new (c1) rfl (by decide) ?_ | refine callY_new (c1) rfl ?_ | refine hE _ _ ret_ne ?_ | refine hE _ _ exit_ne ?_) <;> try simp (disch := first | omega | decide +kernel) only [hti, hei, go_sem, reduceEqDiff, reduceLT, reduceAdd, reduceMul, reduceSub, ↓reduceIte, reduceCtorEq, reduceLeDiff, reduceSubDiff, Nat.reduceBEq]) | (refine hN _ ?_ ?_ Wk.kk) | (with_reducible refine And.intro ?_ ?_) | (with_reducible omega) | (exact ok_ints) | (exact cells_ints) | (exact no_mem) | (with_reducible exact plain_ints) | (refine le_maxLen ?_; omega) | (refine List.forall_mem_cons.2 ⟨?_, ?_⟩) | (simp only [go_sem, Nat.reduceAdd, Nat.reduceLT, List.mem_cons, List.not_mem_nil, forall_eq]; done)))
      all_goals (first | omega | (refine hN m _ (by omega) ⟨h1, h2, hI2⟩ (by refine Wk.auto ?_ ?_ <;> simp [extraK, lk, killL, St.kill, wipeO, wipeS, AV.has, AV.hasL, AO.wipe, List.map_set, updSt, insL, dropS, ins, ]); done))
    · rw [decide_eq_false hb] at c1
      have hI2 : ∀ j (m' : Nat), j ≤ i + 1 → j < (spT v).length → ((spT v).getD j (0, 0)).1 = m' → kG m' ≤ kG k := fun j m' hj hj2 hm => by
        by_cases e : j = i + 1
        · rw [e, h3] at hm
          have : m' = m := by simp only at hm; omega
          rw [this]; omega
        · exact hI j m' (by omega) hj2 hm
      clear hI
      simp (disch := first | omega | decide +kernel) only [hti, hei, go_sem, reduceEqDiff, reduceLT, reduceAdd, reduceMul, reduceSub, ↓reduceIte, reduceCtorEq, reduceLeDiff, reduceSubDiff, Nat.reduceBEq]
      (repeat' (first | (refine gsel_split (fun h => ?_) (fun h => ?_) <;> (have h' := h) <;> (try simp only [decide_eq_true_eq, decide_eq_false_iff_not, Bool.not_eq_true', Bool.not_eq_false', bne_iff_ne, ne_eq, beq_iff_eq, bne_eq_false_iff_eq, beq_eq_false_iff_ne, Int.ofNat_lt, Int.ofNat_le, Int.not_lt, Int.not_le, Decidable.not_not, Bool.and_eq_true, Bool.or_eq_true, Bool.or_eq_false_iff, gt_iff_lt, ge_iff_le] at h') <;> first | (exfalso; omega) | (simp (disch := first | omega | decide +kernel) only [h, hti, hei, go_sem, reduceEqDiff, reduceLT, reduceAdd, reduceMul, reduceSub, ↓reduceIte, reduceCtorEq, reduceLeDiff, reduceSubDiff, Nat.reduceBEq] <;> clear h)) | ((first | refine callX_new (c1) rfl (by decide) ?_ | refine callY_new (c1) rfl ?_ | refine hE _ _ ret_ne ?_ | refine hE _ _ exit_ne ?_) <;> try simp (disch := first | omega | decide +kernel) only [hti, hei, go_sem, reduceEqDiff, reduceLT, reduceAdd, reduceMul, reduceSub, ↓reduceIte, reduceCtorEq, reduceLeDiff, reduceSubDiff, Nat.reduceBEq]) | (refine hN _ ?_ ?_ Wk.kk) | (with_reducible refine And.intro ?_ ?_) | (with_reducible omega) | (exact ok_ints) | (exact cells_ints) | (exact no_mem) | (with_reducible exact plain_ints) | (refine le_maxLen ?_; omega) | (refine List.forall_mem_cons.2 ⟨?_, ?_⟩) | (simp only [go_sem, Nat.reduceAdd, Nat.reduceLT, List.mem_cons, List.not_mem_nil, forall_eq]; done)))
      all_goals (first | omega | (refine hN k _ (by omega) ⟨hk1, hk2, hI2⟩ (by refine Wk.auto ?_ ?_ <;> simp [extraK, lk, killL, St.kill, wipeO, wipeS, AV.has, AV.hasL, AO.wipe, List.map_set, updSt, insL, dropS, ins, ]); done))
  · have hld : ldG v = k := (lds_G hl).eq rfl hk2 fun j hj => by
      obtain ⟨q, hq1, hq2⟩ := spT_has hj
      exact hI q j (by omega) hq1 (by rw [hq2])
    rw [hld] at hE
    simp (disch := first | omega | decide +kernel) only [go_sem, reduceEqDiff, reduceLT, reduceAdd, reduceMul, reduceSub, ↓reduceIte, reduceCtorEq, reduceLeDiff, reduceSubDiff, Nat.reduceBEq]
    (repeat' (first | (refine gsel_split (fun h => ?_) (fun h => ?_) <;> (have h' := h) <;> (try simp only [decide_eq_true_eq, decide_eq_false_iff_not, Bool.not_eq_true', Bool.not_eq_false', bne_iff_ne, ne_eq, beq_iff_eq, bne_eq_false_iff_eq, beq_eq_false_iff_ne, Int.ofNat_lt, Int.ofNat_le, Int.not_lt, Int.not_le, Decidable.not_not, Bool.and_eq_true, Bool.or_eq_true, Bool.or_eq_false_iff, gt_iff_lt, ge_iff_le] at h') <;> first | (exfalso; omega) | (simp (disch := first | omega | decide +kernel) only [h, go_sem, reduceEqDiff, reduceLT, reduceAdd, reduceMul, reduceSub, ↓reduceIte, reduceCtorEq, reduceLeDiff, reduceSubDiff, Nat.reduceBEq] <;> clear h)) | ((first | refine hE _ _ ret_ne ?_ | refine hE _ _ exit_ne ?_) <;> try simp (disch := first | omega | decide +kernel) only [go_sem, reduceEqDiff, reduceLT, reduceAdd, reduceMul, reduceSub, ↓reduceIte, reduceCtorEq, reduceLeDiff, reduceSubDiff, Nat.reduceBEq]) | (refine hN _ ?_ ?_ Wk.kk) | (with_reducible refine And.intro ?_ ?_) | (with_reducible omega) | (exact ok_ints) | (exact cells_ints) | (exact no_mem) | (with_reducible exact plain_ints) | (refine le_maxLen ?_; omega) | (refine List.forall_mem_cons.2 ⟨?_, ?_⟩) | (simp only [go_sem, Nat.reduceAdd, Nat.reduceLT, List.mem_cons, List.not_mem_nil, forall_eq]; done)))
    all_goals (first | omega)
set_option maxHeartbeats 4000000 in
theorem l20Coeff_ok {v : List Int} (hl : v.length ≤ 64) (m : Nat) : Ctr Try.prog 156 [D.tms (spT v), .int .i64 m] false (.d (.int .i64 (v.getD m 0))) [] := by
  have hlb := Tms.len (v := v) rfl hl
  refine Ctr.of (n := 24) (rs := [.tmp 4]) Try.func156 rfl rfl Try.ntmps156 rfl rfl (by kernel_rfl) Try.checked.mixed ?_
  simp (disch := first | omega | decide +kernel) only [go_sem, reduceEqDiff, reduceLT, reduceAdd, reduceMul, reduceSub, ↓reduceIte, reduceCtorEq, reduceLeDiff, reduceSubDiff, Nat.reduceBEq]
  (repeat' (first | (refine gsel_split (fun h => ?_) (fun h => ?_) <;> (have h' := h) <;> (try simp only [decide_eq_true_eq, decide_eq_false_iff_not, Bool.not_eq_true', Bool.not_eq_false', bne_iff_ne, ne_eq, beq_iff_eq, bne_eq_false_iff_eq, beq_eq_false_iff_ne, Int.ofNat_lt, Int.ofNat_le, Int.not_lt, Int.not_le, Decidable.not_not, Bool.and_eq_true, Bool.or_eq_true, Bool.or_eq_false_iff, gt_iff_lt, ge_iff_le] at h') <;> first | (exfalso; omega) | (simp (disch := first | omega | decide +kernel) only [h, go_sem, reduceEqDiff, reduceLT, reduceAdd, reduceMul, reduceSub, ↓reduceIte, reduceCtorEq, reduceLeDiff, reduceSubDiff, Nat.reduceBEq] <;> clear h)) | ((first | refine hE _ _ ret_ne ?_ | refine hE _ _ exit_ne ?_) <;> try simp (disch := first | omega | decide +kernel) only [go_sem, reduceEqDiff, reduceLT, reduceAdd, reduceMul, reduceSub, ↓reduceIte, reduceCtorEq, reduceLeDiff, reduceSubDiff, Nat.reduceBEq]) | (refine hN _ ?_ ?_ Wk.kk) | (with_reducible refine And.intro ?_ ?_) | (with_reducible omega) | (exact ok_ints) | (exact cells_ints) | (exact no_mem) | (with_reducible exact plain_ints) | (refine le_maxLen ?_; omega) | (refine List.forall_mem_cons.2 ⟨?_, ?_⟩) | (simp only [go_sem, Nat.reduceAdd, Nat.reduceLT, List.mem_cons, List.not_mem_nil, forall_eq]; done)))
  refine Ok.loopN [23, 22, 21, 20, 19, 18, 17, 16, 15, 14, 13, 12, 11, 10, 9, 8, 7, 6, 5, 4, 3, 2] (fun i _ => [(5, .d (.int .i64 (i : Nat)))]) (fun _ _ => []) (spT v).length
    (fun i (_ : Unit) => ∀ j, j < i → ((spT v).getD j (0, 0)).1 ≠ (m : Int)) () (by simp) (Wk.kk) ?_
  rintro R i ⟨⟩ hN hE hi hI
  by_cases hlt : i < (spT v).length
  · obtain ⟨q, h1, h2, h3⟩ := spT_at hlt
    have hei := el_tm (xs := spT v) hlt
    rw [h3] at hei
    by_cases e : q = m
    · subst e
      simp (disch := first | omega | decide +kernel) only [hei, go_sem, reduceEqDiff, reduceLT, reduceAdd, reduceMul, reduceSub, ↓reduceIte, reduceCtorEq, reduceLeDiff, reduceSubDiff, Nat.reduceBEq]
      (repeat' (first | (refine gsel_split (fun h => ?_) (fun h => ?_) <;> (have h' := h) <;> (try simp only [decide_eq_true_eq, decide_eq_false_iff_not, Bool.not_eq_true', Bool.not_eq_false', bne_iff_ne, ne_eq, beq_iff_eq, bne_eq_false_iff_eq, beq_eq_false_iff_ne, Int.ofNat_lt, Int.ofNat_le, Int.not_lt, Int.not_le, Decidable.not_not, Bool.and_eq_true, Bool.or_eq_true, Bool.or_eq_false_iff, gt_iff_lt, ge_iff_le] at h') <;> first | (exfalso; omega) | (simp (disch := first | omega | decide +kernel) only [h, hei, go_sem, reduceEqDiff, reduceLT, reduceAdd, reduceMul, reduceSub, ↓reduceIte, reduceCtorEq, reduceLeDiff, reduceSubDiff, Nat.reduceBEq] <;> clear h)) | ((first | refine hE _ _ ret_ne ?_ | refine hE _ _ exit_ne ?_) <;> try simp (disch := first | omega | decide +kernel) only [hei, go_sem, reduceEqDiff, reduceLT, reduceAdd, reduceMul, reduceSub, ↓reduceIte, reduceCtorEq, reduceLeDiff, reduceSubDiff, Nat.reduceBEq]) | (refine hN _ ?_ ?_ Wk.kk) | (with_reducible refine And.intro ?_ ?_) | (with_reducible omega) | (exact ok_ints) | (exact cells_ints) | (exact no_mem) | (with_reducible exact plain_ints) | (refine le_maxLen ?_; omega) | (refine List.forall_mem_cons.2 ⟨?_, ?_⟩) | (simp only [go_sem, Nat.reduceAdd, Nat.reduceLT, List.mem_cons, List.not_mem_nil, forall_eq]; done)))
      all_goals (first | omega | (exact absurd trivial (by assumption)))
    · have hq : ((q : Int) == (m : Int)) = false := beq_eq_false_iff_ne.2 fun h => e (by omega)
      have hI2 : ∀ j, j < i + 1 → ((spT v).getD j (0, 0)).1 ≠ (m : Int) := fun j hj => by
        by_cases e2 : j = i
        · rw [e2, h3]; simp only; omega
        · exact hI j (by omega)
      simp (disch := first | omega | decide +kernel) only [hei, hq, go_sem, reduceEqDiff, reduceLT, reduceAdd, reduceMul, reduceSub, ↓reduceIte, reduceCtorEq, reduceLeDiff, reduceSubDiff, Nat.reduceBEq]
      (repeat' (first | (refine gsel_split (fun h => ?_) (fun h => ?_) <;> (have h' := h) <;> (try simp only [decide_eq_true_eq, decide_eq_false_iff_not, Bool.not_eq_true', Bool.not_eq_false', bne_iff_ne, ne_eq, beq_iff_eq, bne_eq_false_iff_eq, beq_eq_false_iff_ne, Int.ofNat_lt, Int.ofNat_le, Int.not_lt, Int.not_le, Decidable.not_not, Bool.and_eq_true, Bool.or_eq_true, Bool.or_eq_false_iff, gt_iff_lt, ge_iff_le] at h') <;> first | (exfalso; omega) | (simp (disch := first | omega | decide +kernel) only [h, hei, hq, go_sem, reduceEqDiff, reduceLT, reduceAdd, reduceMul, reduceSub, ↓reduceIte, reduceCtorEq, reduceLeDiff, reduceSubDiff, Nat.reduceBEq] <;> clear h)) | ((first | refine hE _ _ ret_ne ?_ | refine hE _ _ exit_ne ?_) <;> try simp (disch := first | omega | decide +kernel) only [hei, hq, go_sem, reduceEqDiff, reduceLT, reduceAdd, reduceMul, reduceSub, ↓reduceIte, reduceCtorEq, reduceLeDiff, reduceSubDiff, Nat.reduceBEq]) | (refine hN _ ?_ ?_ Wk.kk) | (with_reducible refine And.intro ?_ ?_) | (with_reducible omega) | (exact ok_ints) | (exact cells_ints) | (exact no_mem) | (with_reducible exact plain_ints) | (refine le_maxLen ?_; omega) | (refine List.forall_mem_cons.2 ⟨?_, ?_⟩) | (simp only [go_sem, Nat.reduceAdd, Nat.reduceLT, List.mem_cons, List.not_mem_nil, forall_eq]; done)))
      all_goals (first | omega | (refine hN () _ hlt hI2 (by refine Wk.auto ?_ ?_ <;> simp [extraK, lk, killL, St.kill, wipeO, wipeS, AV.has, AV.hasL, AO.wipe, List.map_set, updSt, insL, dropS, ins, ]); done))
  · obtain rfl : i = (spT v).length := by omega
    have hz : v.getD m 0 = 0 := by
      by_cases h : v.getD m 0 = 0
      · exact h
      · obtain ⟨j, hj1, hj2⟩ := spT_has h
        exact absurd (by rw [hj2]) (hI j hj1)
    rw [hz] at hE
    simp (disch := first | omega | decide +kernel) only [go_sem, reduceEqDiff, reduceLT, reduceAdd, reduceMul, reduceSub, ↓reduceIte, reduceCtorEq, reduceLeDiff, reduceSubDiff, Nat.reduceBEq]
    (repeat' (first | (refine gsel_split (fun h => ?_) (fun h => ?_) <;> (have h' := h) <;> (try simp only [decide_eq_true_eq, decide_eq_false_iff_not, Bool.not_eq_true', Bool.not_eq_false', bne_iff_ne, ne_eq, beq_iff_eq, bne_eq_false_iff_eq, beq_eq_false_iff_ne, Int.ofNat_lt, Int.ofNat_le, Int.not_lt, Int.not_le, Decidable.not_not, Bool.and_eq_true, Bool.or_eq_true, Bool.or_eq_false_iff, gt_iff_lt, ge_iff_le] at h') <;> first | (exfalso; omega) | (simp (disch := first | omega | decide +kernel) only [h, go_sem, reduceEqDiff, reduceLT, reduceAdd, reduceMul, reduceSub, ↓reduceIte, reduceCtorEq, reduceLeDiff, reduceSubDiff, Nat.reduceBEq] <;> clear h)) | ((first | refine hE _ _ ret_ne ?_ | refine hE _ _ exit_ne ?_) <;> try simp (disch := first | omega | decide +kernel) only [go_sem, reduceEqDiff, reduceLT, reduceAdd, reduceMul, reduceSub, ↓reduceIte, reduceCtorEq, reduceLeDiff, reduceSubDiff, Nat.reduceBEq]) | (refine hN _ ?_ ?_ Wk.kk) | (with_reducible refine And.intro ?_ ?_) | (with_reducible omega) | (exact ok_ints) | (exact cells_ints) | (exact no_mem) | (with_reducible exact plain_ints) | (refine le_maxLen ?_; omega) | (refine List.forall_mem_cons.2 ⟨?_, ?_⟩) | (simp only [go_sem, Nat.reduceAdd, Nat.reduceLT, List.mem_cons, List.not_mem_nil, forall_eq]; done)))
    all_goals (first | omega)
theorem l20Inverse_ok {p c : Int} (hp : p = 2 ∨ p = 3 ∨ p = 5) (hc : 0 < c ∧ c < p) : Ctr Try.prog 176 [.int .i64 p, .int .i64 c] false (.d (.int .i64 (invN p c))) [] := by
  obtain ⟨h1, h2, h3, h4⟩ := invN_ok hp hc
  have hp0 : ¬ p = 0 := by omega
  generalize invN p c = k at *
  refine Ctr.of (n := 15) (rs := [.tmp 4]) Try.func176 rfl rfl Try.ntmps176 rfl rfl (by kernel_rfl) Try.checked.mixed ?_
  simp (disch := first | omega | decide +kernel) only [go_sem, reduceEqDiff, reduceLT, reduceAdd, reduceMul, reduceSub, ↓reduceIte, reduceCtorEq, reduceLeDiff, reduceSubDiff, Nat.reduceBEq]
  (repeat' (first | (refine gsel_split (fun h => ?_) (fun h => ?_) <;> (have h' := h) <;> (try simp only [decide_eq_true_eq, decide_eq_false_iff_not, Bool.not_eq_true', Bool.not_eq_false', bne_iff_ne, ne_eq, beq_iff_eq, bne_eq_false_iff_eq, beq_eq_false_iff_ne, Int.ofNat_lt, Int.ofNat_le, Int.not_lt, Int.not_le, Decidable.not_not, Bool.and_eq_true, Bool.or_eq_true, Bool.or_eq_false_iff, gt_iff_lt, ge_iff_le] at h') <;> first | (exfalso; omega) | (simp (disch := first | omega | decide +kernel) only [h, go_sem, reduceEqDiff, reduceLT, reduceAdd, reduceMul, reduceSub, ↓reduceIte, reduceCtorEq, reduceLeDiff, reduceSubDiff, Nat.reduceBEq] <;> clear h)) | ((first | refine hE _ _ ret_ne ?_ | refine hE _ _ exit_ne ?_) <;> try simp (disch := first | omega | decide +kernel) only [go_sem, reduceEqDiff, reduceLT, reduceAdd, reduceMul, reduceSub, ↓reduceIte, reduceCtorEq, reduceLeDiff, reduceSubDiff, Nat.reduceBEq]) | (refine hN _ ?_ ?_ Wk.kk) | (with_reducible refine And.intro ?_ ?_) | (with_reducible omega) | (exact ok_ints) | (exact cells_ints) | (exact no_mem) | (with_reducible exact plain_ints) | (refine le_maxLen ?_; omega) | (refine List.forall_mem_cons.2 ⟨?_, ?_⟩) | (simp only [go_sem, Nat.reduceAdd, Nat.reduceLT, List.mem_cons, List.not_mem_nil, forall_eq]; done)))
  refine Ok.loopN [13, 12, 11, 10, 9, 8, 7, 6, 5, 3, 2] (fun i _ => [(5, .d (.int .i64 ((i : Nat) + 1 : Int)))]) (fun _ _ => []) k
    (fun i (_ : Unit) => i < k) () (by omega) (Wk.kk) ?_
  rintro R i ⟨⟩ hN hE hi hI
  have hci : 0 ≤ c * ((i : Int) + 1) ∧ c * ((i : Int) + 1) ≤ 25 := ⟨Int.mul_nonneg (by omega) (by omega), Int.le_trans (Int.mul_le_mul (show c ≤ 5 by omega) (show (i : Int) + 1 ≤ 5 by omega) (by omega) (by decide)) (by decide)⟩
  have em : (c * ((i : Int) + 1)).tmod p = (c * ((i : Int) + 1)) % p := Int.tmod_eq_emod_of_nonneg hci.1
  by_cases e : i + 1 = k
  · have hk : (k : Int) = (i : Int) + 1 := by omega
    rw [hk] at h3 hE
    rw [h3] at em
    simp (disch := first | omega | decide +kernel) only [em, go_sem, reduceEqDiff, reduceLT, reduceAdd, reduceMul, reduceSub, ↓reduceIte, reduceCtorEq, reduceLeDiff, reduceSubDiff, Nat.reduceBEq]
    (repeat' (first | (refine gsel_split (fun h => ?_) (fun h => ?_) <;> (have h' := h) <;> (try simp only [decide_eq_true_eq, decide_eq_false_iff_not, Bool.not_eq_true', Bool.not_eq_false', bne_iff_ne, ne_eq, beq_iff_eq, bne_eq_false_iff_eq, beq_eq_false_iff_ne, Int.ofNat_lt, Int.ofNat_le, Int.not_lt, Int.not_le, Decidable.not_not, Bool.and_eq_true, Bool.or_eq_true, Bool.or_eq_false_iff, gt_iff_lt, ge_iff_le] at h') <;> first | (exfalso; omega) | (simp (disch := first | omega | decide +kernel) only [h, em, go_sem, reduceEqDiff, reduceLT, reduceAdd, reduceMul, reduceSub, ↓reduceIte, reduceCtorEq, reduceLeDiff, reduceSubDiff, Nat.reduceBEq] <;> clear h)) | ((first | refine hE _ _ ret_ne ?_ | refine hE _ _ exit_ne ?_) <;> try simp (disch := first | omega | decide +kernel) only [em, go_sem, reduceEqDiff, reduceLT, reduceAdd, reduceMul, reduceSub, ↓reduceIte, reduceCtorEq, reduceLeDiff, reduceSubDiff, Nat.reduceBEq]) | (refine hN _ ?_ ?_ Wk.kk) | (with_reducible refine And.intro ?_ ?_) | (with_reducible omega) | (exact ok_ints) | (exact cells_ints) | (exact no_mem) | (with_reducible exact plain_ints) | (refine le_maxLen ?_; omega) | (refine List.forall_mem_cons.2 ⟨?_, ?_⟩) | (simp only [go_sem, Nat.reduceAdd, Nat.reduceLT, List.mem_cons, List.not_mem_nil, forall_eq]; done)))
    all_goals (first | (exact absurd trivial (by assumption)) | omega)
  · have h5 := h4 (i + 1) (by omega) (by omega)
    rw [show ((i + 1 : Nat) : Int) = (i : Int) + 1 by omega] at h5
    generalize c * ((i : Int) + 1) % p = r at *
    have hb : (r != 1) = true := bne_iff_ne.2 h5
    simp (disch := first | omega | decide +kernel) only [em, hb, go_sem, reduceEqDiff, reduceLT, reduceAdd, reduceMul, reduceSub, ↓reduceIte, reduceCtorEq, reduceLeDiff, reduceSubDiff, Nat.reduceBEq]
    (repeat' (first | (refine gsel_split (fun h => ?_) (fun h => ?_) <;> (have h' := h) <;> (try simp only [decide_eq_true_eq, decide_eq_false_iff_not, Bool.not_eq_true', Bool.not_eq_false', bne_iff_ne, ne_eq, beq_iff_eq, bne_eq_false_iff_eq, beq_eq_false_iff_ne, Int.ofNat_lt, Int.ofNat_le, Int.not_lt, Int.not_le, Decidable.not_not, Bool.and_eq_true, Bool.or_eq_true, Bool.or_eq_false_iff, gt_iff_lt, ge_iff_le] at h') <;> first | (exfalso; omega) | (simp (disch := first | omega | decide +kernel) only [h, em, hb, go_sem, reduceEqDiff, reduceLT, reduceAdd, reduceMul, reduceSub, ↓reduceIte, reduceCtorEq, reduceLeDiff, reduceSubDiff, Nat.reduceBEq] <;> clear h)) | ((first | refine hE _ _ ret_ne ?_ | refine hE _ _ exit_ne ?_) <;> try simp (disch := first | omega | decide +kernel) only [em, hb, go_sem, reduceEqDiff, reduceLT, reduceAdd, reduceMul, reduceSub, ↓reduceIte, reduceCtorEq, reduceLeDiff, reduceSubDiff, Nat.reduceBEq]) | (refine hN _ ?_ ?_ Wk.kk) | (with_reducible refine And.intro ?_ ?_) | (with_reducible omega) | (exact ok_ints) | (exact cells_ints) | (exact no_mem) | (with_reducible exact plain_ints) | (refine le_maxLen ?_; omega) | (refine List.forall_mem_cons.2 ⟨?_, ?_⟩) | (simp only [go_sem, Nat.reduceAdd, Nat.reduceLT, List.mem_cons, List.not_mem_nil, forall_eq]; done)))
    all_goals (first | omega | (refine hN () _ hI (by omega) (by refine Wk.auto ?_ ?_ <;> simp [extraK, lk, killL, St.kill, wipeO, wipeS, AV.has, AV.hasL, AO.wipe, List.map_set, updSt, insL, dropS, ins, ]); done))
end Abs.Y
