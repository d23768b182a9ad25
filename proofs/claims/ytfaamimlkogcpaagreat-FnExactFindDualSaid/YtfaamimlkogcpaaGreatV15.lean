/- What functions of this program compute, as contracts over plain data, with what the proofs need of them. No condition. -/
import Derived.Test.YtfaamimlkogcpaaGreatE0
import Derived.Test.YtfaamimlkogcpaaGreatD4
import Derived.Test.YtfaamimlkogcpaaGreatA3
set_option linter.all false
namespace Abs.Y
open Go Go.Proofs Abs
open Nat renaming reduceEqDiff → zqa, reduceLT → zqb, reduceAdd → zqc, reduceMul → zqd, reduceSub → zqe, reduceLeDiff → zqf, reduceSubDiff → zqg, reduceBEq → zqh
open Bool renaming not_eq_true' → zba, not_eq_false' → zbb, and_eq_true → zbc, or_eq_true → zbd, or_eq_false_iff → zbe
open Int renaming ofNat_lt → zia, ofNat_le → zib, not_lt → zic, not_le → zid
open Decidable renaming not_not → zda
set_option maxRecDepth 100000

def ldFI (v : List Int) : Int := idxR (fun k => v.getD k 0 != 0) v.length
def ldF (v : List Int) : Nat := (ldFI v).toNat
theorem ldFI_or (v : List Int) : (ldFI v = -1 ∧ ∀ i, v.getD i 0 = 0) ∨ (ldFI v = (ldF v : Nat) ∧ ldF v < v.length ∧ v.getD (ldF v) 0 ≠ 0 ∧ ∀ i, i < ldF v → v.getD i 0 = 0) := by
  by_cases h : ∃ k, k < v.length ∧ v.getD k 0 ≠ 0
  · obtain ⟨k, hk, hv, hmin⟩ : ∃ k, k < v.length ∧ v.getD k 0 ≠ 0 ∧ ∀ i, i < k → v.getD i 0 = 0 := by
      obtain ⟨k, hk⟩ := h
      induction k using Nat.strongRecOn with
      | ind k ih =>
        by_cases hh : ∃ i, i < k ∧ v.getD i 0 ≠ 0
        · obtain ⟨i, hi, hv⟩ := hh
          exact ih i hi ⟨by omega, hv⟩
        · exact ⟨k, hk.1, hk.2, fun i hi => Classical.byContradiction fun e => hh ⟨i, hi, e⟩⟩
    have e : ldFI v = (k : Nat) := idxR_some hk (by simpa using hv) fun j hj => by simpa using hmin j hj
    have e2 : ldF v = k := by unfold ldF; rw [e]; simp
    rw [e2]
    exact .inr ⟨e, hk, hv, hmin⟩
  · refine .inl ⟨idxR_none fun j hj => ?_, fun i => ?_⟩
    · have : v.getD j 0 = 0 := Classical.byContradiction fun e => h ⟨j, hj, e⟩
      show (v.getD j 0 != 0) = false
      rw [this]; rfl
    · by_cases hi : i < v.length
      · exact Classical.byContradiction fun e => h ⟨i, hi, e⟩
      · exact getD_oob (by omega)
theorem ldFI_neg {v : List Int} : ldFI v < 0 ↔ ∀ i, v.getD i 0 = 0 := by
  rcases ldFI_or v with ⟨h1, h2⟩ | ⟨h1, h2, h3, _⟩
  · exact ⟨fun _ => h2, fun _ => by rw [h1]; decide⟩
  · exact ⟨fun h => by omega, fun h => absurd (h _) h3⟩
theorem ldF_eq {v : List Int} {k : Nat} (h : v.getD k 0 ≠ 0) (h' : ∀ i, i < k → v.getD i 0 = 0) : ldF v = k := by
  rcases ldFI_or v with ⟨_, h2⟩ | ⟨_, _, h3, h4⟩
  · exact absurd (h2 k) h
  · by_cases e : ldF v < k
    · exact absurd (h' _ e) h3
    · by_cases e2 : k < ldF v
      · exact absurd (h4 _ e2) h
      · omega
structure BaseS where
  R : List (List Int)
  M : List (List Int)
structure BaseI (p : Int) (u : Nat) (b : BaseS) : Prop where
  vec : AllV p (2 ^ u) b.R
  tri : Tri ldF b.R
  len : b.M.length = b.R.length
  mad : ∀ m ∈ b.M, m.length ≤ b.R.length ∧ Vec p m.length m
  nod : (b.R.map ldF).Nodup
theorem BaseI.nz {p : Int} {u : Nat} {b : BaseS} (h : BaseI p u b) {r : List Int} (hr : r ∈ b.R) : ¬ ldFI r < 0 := fun hn => by
  have := h.tri.1 r hr
  rw [ldFI_neg.1 hn] at this
  exact absurd this (by decide)
theorem BaseI.nil {p : Int} {u : Nat} : BaseI p u ⟨[], []⟩ := ⟨fun _ h => (by cases h), ⟨fun _ h => (by cases h), .nil⟩, rfl, fun _ h => (by cases h), .nil⟩
theorem nodup_len2 : ∀ {l l' : List Nat}, l.Nodup → (∀ x ∈ l, x ∈ l') → l.length ≤ l'.length
  | [], _, _, _ => Nat.zero_le _
  | x :: r, l', h, hs => by
    rw [List.nodup_cons] at h
    have h1 := hs x (by simp)
    have h2 := nodup_len2 (l' := l'.erase x) h.2 fun y hy => (List.mem_erase_of_ne (fun e => h.1 (by rw [← e]; exact hy))).2 (hs y (by simp [hy]))
    rw [List.length_erase_of_mem h1] at h2
    have := List.length_pos_of_mem h1
    simp only [List.length_cons]; omega
theorem BaseI.bd {p : Int} {u : Nat} (hu : u ≤ 6) {b : BaseS} (h : BaseI p u b) : b.R.length ≤ 64 := by
  have h64 := pow_le6 hu
  have h1 := nodup_len2 (l := b.R.map ldF) (l' := List.range (2 ^ u)) h.nod fun x hx => by
    obtain ⟨r, hr, rfl⟩ := List.mem_map.1 hx
    obtain ⟨_, h2, _⟩ := (ldFI_or r).resolve_left fun e => h.nz hr (by rw [e.1]; decide)
    rw [List.mem_range, ← (h.vec r hr).1]; exact h2
  simp only [List.length_map, List.length_range] at h1
  omega
def redFP (p : Int) (R M : List (List Int)) (s : List Int × List Int) (i : Nat) : List Int × List Int :=
  if s.1.getD (ldF (R.getD i [])) 0 = 0 then s else (addD p (p - s.1.getD (ldF (R.getD i [])) 0) s.1 (R.getD i []), addM p (s.1.getD (ldF (R.getD i [])) 0) s.2 (M.getD i []))
def redFQ (p : Int) (R M : List (List Int)) (a : List Int) (many k : Nat) : List Int × List Int := (List.range k).foldl (redFP p R M) (a, List.replicate many 0)
theorem redFQ_succ (p : Int) (R M : List (List Int)) (a : List Int) (many k : Nat) : redFQ p R M a many (k + 1) = redFP p R M (redFQ p R M a many k) k := by
  rw [redFQ, List.range_succ, List.foldl_append]; rfl
theorem redFQ_vec {p : Int} (hp : 0 < p) {n many : Nat} {R M : List (List Int)} {a : List Int} (hR : AllV p n R) (ha : Vec p n a) : ∀ k, k ≤ R.length → Vec p n (redFQ p R M a many k).1 ∧ Vec p many (redFQ p R M a many k).2
  | 0, _ => ⟨ha, Vec.zero hp many⟩
  | k + 1, hk => by
    have ih := redFQ_vec hp (M := M) (many := many) hR ha k (by omega)
    rw [redFQ_succ]
    unfold redFP
    split
    · exact ih
    · exact ⟨Vec.addD hp ih.1.1 (hR _ (getD_mem (z := ([] : List Int)) (by omega))).1, addM_vec hp _ ih.2 _⟩
theorem redFQ_red {p : Int} (hp : 0 < p) {n many : Nat} {R M : List (List Int)} {a : List Int} (hR : AllV p n R) (ha : Vec p n a) : ∀ k, k ≤ R.length → (redFQ p R M a many k).1 = redD p ldF (R.take k) a
  | 0, _ => rfl
  | k + 1, hk => by
    have ih := redFQ_red hp (M := M) (many := many) hR ha k (by omega)
    have hv := (redFQ_vec hp (M := M) (many := many) hR ha k (by omega)).1
    have hr := hR _ (getD_mem (z := ([] : List Int)) (l := R) (i := k) (by omega))
    rw [redFQ_succ, take_succ [] R k (by omega), redD, List.foldl_append]
    change _ = addD p (p - (redD p ldF (R.take k) a).getD (ldF (R.getD k [])) 0) (redD p ldF (R.take k) a) (R.getD k [])
    rw [← ih]
    unfold redFP
    split
    · rename_i h
      rw [h, Int.sub_zero, addD_mul 1 (by omega) hv hr.1]
    · rfl
def leftF (p : Int) (b : BaseS) (a : List Int) : List Int := (redFQ p b.R b.M a b.R.length b.R.length).1
def madeF (p : Int) (b : BaseS) (a : List Int) : List Int := (redFQ p b.R b.M a b.R.length b.R.length).2
def rowF (p : Int) (u : Nat) (b : BaseS) (a : List Int) : List Int := addD p (invN p ((leftF p b a).getD (ldF (leftF p b a)) 0)) (List.replicate (2 ^ u) 0) (leftF p b a)
def addF (p : Int) (u : Nat) (b : BaseS) (a : List Int) : BaseS :=
  if ldFI (leftF p b a) < 0 then b else ⟨b.R ++ [rowF p u b a], b.M ++ [ownV p (invN p ((leftF p b a).getD (ldF (leftF p b a)) 0)) (madeF p b a)]⟩
section
variable {p : Int} {u : Nat} (hp : p = 2 ∨ p = 3 ∨ p = 5)
include hp
theorem leftF_facts {b : BaseS} {a : List Int} (h : BaseI p u b) (ha : Vec p (2 ^ u) a) : Vec p (2 ^ u) (leftF p b a) ∧ leftF p b a = redD p ldF b.R a ∧ Vec p b.R.length (madeF p b a) ∧ (ldFI (leftF p b a) < 0 ↔ Sp p (2 ^ u) b.R a) := by
  have h1 := redFQ_vec (p := p) (M := b.M) (many := b.R.length) (by omega) h.vec ha b.R.length (Nat.le_refl _)
  have h2 := redFQ_red (p := p) (M := b.M) (many := b.R.length) (by omega) h.vec ha b.R.length (Nat.le_refl _)
  rw [List.take_length] at h2
  refine ⟨h1.1, h2, h1.2, ?_⟩
  have h3 : Vec p (2 ^ u) (leftF p b a) := h1.1
  rw [ldFI_neg, ← vec_zero_iff (p := p) h3.1]
  unfold leftF
  rw [h2]
  exact red_iff (by omega) ldF h.vec h.tri ha
theorem leftF_nz {b : BaseS} {a : List Int} (h : BaseI p u b) (ha : Vec p (2 ^ u) a) (hl : ¬ ldFI (leftF p b a) < 0) : 0 < (leftF p b a).getD (ldF (leftF p b a)) 0 ∧ (leftF p b a).getD (ldF (leftF p b a)) 0 < p ∧ ldF (leftF p b a) < 2 ^ u ∧ ldFI (leftF p b a) = (ldF (leftF p b a) : Nat) := by
  obtain ⟨h1, _⟩ := leftF_facts hp h ha
  obtain ⟨h2, h3, h4, _⟩ := (ldFI_or (leftF p b a)).resolve_left fun h => hl (by rw [h.1]; decide)
  have := h1.2 (ldF (leftF p b a))
  exact ⟨by omega, this.2, by rw [← h1.1]; exact h3, h2⟩
theorem rowF_facts {b : BaseS} {a : List Int} (h : BaseI p u b) (ha : Vec p (2 ^ u) a) (hl : ¬ ldFI (leftF p b a) < 0) : Vec p (2 ^ u) (rowF p u b a) ∧ ldF (rowF p u b a) = ldF (leftF p b a) ∧ (rowF p u b a).getD (ldF (leftF p b a)) 0 = 1 := by
  obtain ⟨h1, _⟩ := leftF_facts hp h ha
  obtain ⟨n1, n2, n3, _⟩ := leftF_nz hp h ha hl
  obtain ⟨_, _, i3, _⟩ := invN_ok hp ⟨n1, n2⟩
  have hlen := h1.1
  have hrow : Vec p (2 ^ u) (rowF p u b a) := Vec.addD (by omega) (a := List.replicate (2 ^ u) 0) (by simp) h1.1
  have hg : ∀ i, (rowF p u b a).getD i 0 = (invN p ((leftF p b a).getD (ldF (leftF p b a)) 0) : Int) * (leftF p b a).getD i 0 % p := fun i => by
    show (addD p _ (List.replicate (2 ^ u) 0) (leftF p b a)).getD i 0 = _
    rw [addD_get (by simp; omega), getD_rep, Int.zero_add]
  have hone : (rowF p u b a).getD (ldF (leftF p b a)) 0 = 1 := by rw [hg, Int.mul_comm]; exact i3
  obtain ⟨_, _, _, h5⟩ := (ldFI_or (leftF p b a)).resolve_left fun h => hl (by rw [h.1]; decide)
  refine ⟨hrow, ldF_eq (by rw [hone]; decide) fun i hi => ?_, hone⟩
  rw [hg, h5 i hi]; simp
theorem addF_ok {b : BaseS} {a : List Int} (h : BaseI p u b) (ha : Vec p (2 ^ u) a) : BaseI p u (addF p u b a) ∧ SpEq p (2 ^ u) (addF p u b a).R (b.R ++ [a]) := by
  obtain ⟨h1, h2, h3, hiff⟩ := leftF_facts hp h ha
  have hA : AllV p (2 ^ u) (b.R ++ [a]) := h.vec.app fun x hx => by rw [List.mem_singleton.1 hx]; exact ha
  by_cases hl : ldFI (leftF p b a) < 0
  · unfold addF; rw [if_pos hl]
    refine ⟨h, fun v => ⟨Sp.trans (by omega) hA fun r hr => Sp.self (by omega) hA (List.mem_append.2 (.inl hr)), Sp.trans (by omega) h.vec fun r hr => ?_⟩⟩
    rcases List.mem_append.1 hr with h4 | h4
    · exact Sp.self (by omega) h.vec h4
    · rw [List.mem_singleton.1 h4]; exact hiff.1 hl
  · obtain ⟨n1, n2, n3, _⟩ := leftF_nz hp h ha hl
    obtain ⟨i1, i2, i3, _⟩ := invN_ok hp ⟨n1, n2⟩
    obtain ⟨r1, r2, r3⟩ := rowF_facts hp h ha hl
    have hz : ∀ r ∈ b.R, (leftF p b a).getD (ldF r) 0 = 0 := fun r hr => by rw [h2]; exact redD_lead (by omega) ldF h.vec h.tri ha r hr
    have hz2 : ∀ r ∈ b.R, (rowF p u b a).getD (ldF r) 0 = 0 := fun r hr => by
      show (addD p _ (List.replicate (2 ^ u) 0) (leftF p b a)).getD (ldF r) 0 = 0
      have := h1.1
      rw [addD_get (by simp; omega), getD_rep, hz r hr]; simp
    have hov : Vec p (b.R.length + 1) (ownV p (invN p ((leftF p b a).getD (ldF (leftF p b a)) 0)) (madeF p b a)) := ownV_vec (by omega) (by omega) h3.1
    unfold addF
    rw [if_neg hl]
    refine ⟨⟨h.vec.app fun x hx => by rw [List.mem_singleton.1 hx]; exact r1, ⟨fun r hr => ?_, ?_⟩, by simp [h.len], fun m hm => ?_, ?_⟩, fun v => ?_⟩
    · rcases List.mem_append.1 hr with h4 | h4
      · exact h.tri.1 r h4
      · rw [List.mem_singleton.1 h4, r2]; exact r3
    · rw [List.pairwise_append]
      exact ⟨h.tri.2, List.pairwise_singleton _ _, fun x hx y hy => by rw [List.mem_singleton.1 hy]; exact hz2 x hx⟩
    · rcases List.mem_append.1 hm with h4 | h4
      · have := h.mad m h4
        exact ⟨by simp; omega, this.2⟩
      · rw [List.mem_singleton.1 h4]
        exact ⟨by rw [hov.1]; simp, by rw [hov.1]; exact hov⟩
    · rw [List.map_append, List.nodup_append]
      refine ⟨h.nod, by simp, fun x hx y hy e => ?_⟩
      obtain ⟨r, hr, rfl⟩ := List.mem_map.1 hx
      simp only [List.map_cons, List.map_nil, List.mem_singleton] at hy
      have h5 := hz2 r hr
      rw [e, hy, r2, r3] at h5
      exact absurd h5 (by decide)
    · have := sp_tri (p := p) (by omega) ldF h.vec ha (k := invN p ((leftF p b a).getD (ldF (leftF p b a)) 0)) (c := (leftF p b a).getD (ldF (leftF p b a)) 0) (by rw [Int.mul_comm]; exact i3) v
      unfold rowF
      rw [h2] at this ⊢
      exact this
end
end Abs.Y

namespace Abs.Y
open Go Go.Proofs Abs
open Nat renaming reduceEqDiff → zqa, reduceLT → zqb, reduceAdd → zqc, reduceMul → zqd, reduceSub → zqe, reduceLeDiff → zqf, reduceSubDiff → zqg, reduceBEq → zqh
open Bool renaming not_eq_true' → zba, not_eq_false' → zbb, and_eq_true → zbc, or_eq_true → zbd, or_eq_false_iff → zbe
open Int renaming ofNat_lt → zia, ofNat_le → zib, not_lt → zic, not_le → zid
open Decidable renaming not_not → zda
set_option maxRecDepth 100000

def evS (v : List Int) (x : Nat) : Int := sumR v.length fun m => if m &&& x = m then v.getD m 0 else 0
def ev (p : Int) (v : List Int) (x : Nat) : Int := evS v x % p
section
variable {p : Int} (hp : 1 < p)
include hp
theorem mono_get {u m : Nat} (hm : m < 2 ^ u) (i : Nat) : (monoD u m).getD i 0 = if m = i then 1 else 0 := by
  unfold monoD
  rw [getD_set, getD_rep]
  by_cases h : m = i
  · rw [if_pos ⟨h, by simp; omega⟩, if_pos h]
  · rw [if_neg fun h' => h h'.1, if_neg h]
def litT (x : Nat) (l : Int) : Bool := x.testBit (l.natAbs - 1) == decide (0 < l)
omit hp in
end
end Abs.Y

namespace Abs.Y
open Go Go.Proofs Abs
open Nat renaming reduceEqDiff → zqa, reduceLT → zqb, reduceAdd → zqc, reduceMul → zqd, reduceSub → zqe, reduceLeDiff → zqf, reduceSubDiff → zqg, reduceBEq → zqh
open Bool renaming not_eq_true' → zba, not_eq_false' → zbb, and_eq_true → zbc, or_eq_true → zbd, or_eq_false_iff → zbe
open Int renaming ofNat_lt → zia, ofNat_le → zib, not_lt → zic, not_le → zid
open Decidable renaming not_not → zda
set_option maxRecDepth 100000

def prodC (p : Int) (u : Nat) (c : List Int) (m : Nat) : List Int := mulD p (2 ^ u) (clauseD p u c) (monoD u m)
def GmL (u : Nat) (d : Int) (L : List Nat) : Prop := ∀ m, m ∈ L ↔ m < 2 ^ u ∧ (cnt m : Int) ≤ d
def prodsP (p : Int) (u : Nat) (G : Int → List Nat) (cs : List (List Int)) (d : Int) : List (List Int) := cs.flatMap fun c => if (c.length : Int) ≤ d then (G (d - c.length)).map (prodC p u c) else []
theorem prodC_vec {p : Int} (hp : 1 < p) (u : Nat) (c : List Int) (m : Nat) : Vec p (2 ^ u) (prodC p u c m) := Vec.mulD (by omega) _ _ _
theorem prodsP_mem {p : Int} {u : Nat} {G : Int → List Nat} {cs : List (List Int)} {d : Int} (hG : ∀ d, GmL u d (G d)) {a : List Int} :
    a ∈ prodsP p u G cs d ↔ ∃ c ∈ cs, (c.length : Int) ≤ d ∧ ∃ m, m < 2 ^ u ∧ (cnt m : Int) ≤ d - c.length ∧ a = prodC p u c m := by
  unfold prodsP
  rw [List.mem_flatMap]
  constructor
  · rintro ⟨c, hc, h⟩
    by_cases hl : (c.length : Int) ≤ d
    · rw [if_pos hl, List.mem_map] at h
      obtain ⟨m, hm, rfl⟩ := h
      obtain ⟨h1, h2⟩ := (hG _ m).1 hm
      exact ⟨c, hc, hl, m, h1, h2, rfl⟩
    · rw [if_neg hl] at h; cases h
  · rintro ⟨c, hc, hl, m, h1, h2, rfl⟩
    exact ⟨c, hc, by rw [if_pos hl, List.mem_map]; exact ⟨m, (hG _ m).2 ⟨h1, h2⟩, rfl⟩⟩
theorem prodsP_eq {p : Int} {u : Nat} {G G' : Int → List Nat} {cs : List (List Int)} {d : Int} (hG : ∀ d, GmL u d (G d)) (hG' : ∀ d, GmL u d (G' d)) : SpEq p (2 ^ u) (prodsP p u G cs d) (prodsP p u G' cs d) := fun v =>
  ⟨Sp.mono fun r hr => (prodsP_mem hG').2 ((prodsP_mem hG).1 hr), Sp.mono fun r hr => (prodsP_mem hG).2 ((prodsP_mem hG').1 hr)⟩
theorem cnt_bits : ∀ u, u < 7 → ∀ m, m < 2 ^ u → cnt m = ((List.range u).filter fun k => m.testBit k).length := by decide +kernel
def varsD (c : List Int) : List Nat := c.map fun l => l.natAbs - 1
section
variable {p : Int} {u : Nat} (hp : 1 < p) (hu : u ≤ 6)
include hp
include hu
omit hu in
def partM (p : Int) (u : Nat) (w : List Int) (k : Nat) : List Int := (List.range k).foldl (fun v m => addD p (w.getD m 0) v (monoD u m)) (List.replicate (2 ^ u) 0)
omit hp hu in
omit hu in
omit hu in
omit hu in
def notAll (p : Int) (u : Nat) : List (List Int) → List Int
  | [] => monoD u 0
  | c :: r => mulD p (2 ^ u) (notAll p u r) (addD p (p - 1) (monoD u 0) (clauseD p u c))
omit hu in
omit hu in
omit hu in
end
end Abs.Y

namespace Abs.Y
open Go Go.Proofs Abs
open Nat renaming reduceEqDiff → zqa, reduceLT → zqb, reduceAdd → zqc, reduceMul → zqd, reduceSub → zqe, reduceLeDiff → zqf, reduceSubDiff → zqg, reduceBEq → zqh
open Bool renaming not_eq_true' → zba, not_eq_false' → zbb, and_eq_true → zbc, or_eq_true → zbd, or_eq_false_iff → zbe
open Int renaming ofNat_lt → zia, ofNat_le → zib, not_lt → zic, not_le → zid
open Decidable renaming not_not → zda
set_option maxRecDepth 100000

theorem mem_spT {v : List Int} {t : (Int × Int)} : t ∈ spT v ↔ ∃ m : Nat, m < v.length ∧ v.getD m 0 ≠ 0 ∧ t = ((m : Int), v.getD m 0) := by
  unfold spT
  simp only [List.mem_map, List.mem_filter, List.mem_range, decide_eq_true_eq]
  constructor
  · rintro ⟨m, ⟨h1, h2⟩, rfl⟩; exact ⟨m, h1, h2, rfl⟩
  · rintro ⟨m, h1, h2, rfl⟩; exact ⟨m, ⟨h1, h2⟩, rfl⟩
theorem spT_has {v : List Int} {m : Nat} (h : v.getD m 0 ≠ 0) : ∃ i, i < (spT v).length ∧ (spT v).getD i (0, 0) = ((m : Int), v.getD m 0) := by
  obtain ⟨i, hi, he⟩ := mem_getD (z := ((0, 0) : (Int × Int))) (mem_spT.2 ⟨m, lt_of_get h, h, rfl⟩)
  exact ⟨i, hi, he⟩
theorem spT_nil {v : List Int} : spT v = [] ↔ ldI v < 0 := by
  rw [ldI_neg]
  constructor
  · intro h i
    by_cases hi : v.getD i 0 = 0
    · exact hi
    · obtain ⟨j, hj, _⟩ := spT_has hi
      rw [h] at hj; simp at hj
  · intro h
    cases hs : spT v with
    | nil => rfl
    | cons t r =>
      obtain ⟨m, _, h2, _⟩ := mem_spT.1 (show t ∈ spT v by rw [hs]; simp)
      exact absurd (h m) h2
end Abs.Y

namespace Abs.Y
open Go Go.Proofs Abs
open Nat renaming reduceEqDiff → zqa, reduceLT → zqb, reduceAdd → zqc, reduceMul → zqd, reduceSub → zqe, reduceLeDiff → zqf, reduceSubDiff → zqg, reduceBEq → zqh
open Bool renaming not_eq_true' → zba, not_eq_false' → zbb, and_eq_true → zbc, or_eq_true → zbd, or_eq_false_iff → zbe
open Int renaming ofNat_lt → zia, ofNat_le → zib, not_lt → zic, not_le → zid
open Decidable renaming not_not → zda
set_option maxRecDepth 100000

section
variable {p : Int} {u : Nat} (hp : 1 < p ∧ p ≤ 5) (hu : u ≤ 6)
include hp hu
end
end Abs.Y

namespace Abs.Y
open Go Go.Proofs Abs
open Nat renaming reduceEqDiff → zqa, reduceLT → zqb, reduceAdd → zqc, reduceMul → zqd, reduceSub → zqe, reduceLeDiff → zqf, reduceSubDiff → zqg, reduceBEq → zqh
open Bool renaming not_eq_true' → zba, not_eq_false' → zbb, and_eq_true → zbc, or_eq_true → zbd, or_eq_false_iff → zbe
open Int renaming ofNat_lt → zia, ofNat_le → zib, not_lt → zic, not_le → zid
open Decidable renaming not_not → zda
set_option maxRecDepth 100000

def sumC (p : Int) (u : Nat) (cs : List (List Int)) (list : List (List (Int × Int))) (k : Nat) : List Int :=
  (List.range k).foldl (fun v i => addD p 1 v (mulD p (2 ^ u) (dnT (2 ^ u) (list.getD i [])) (clauseD p u (cs.getD i [])))) (List.replicate (2 ^ u) 0)
section
variable {p : Int} {u : Nat} (hp : 1 < p ∧ p ≤ 5) (hu : u ≤ 6)
include hp hu
end
end Abs.Y

namespace Abs.Y
open Go Go.Proofs Abs
open Nat renaming reduceEqDiff → zqa, reduceLT → zqb, reduceAdd → zqc, reduceMul → zqd, reduceSub → zqe, reduceLeDiff → zqf, reduceSubDiff → zqg, reduceBEq → zqh
open Bool renaming not_eq_true' → zba, not_eq_false' → zbb, and_eq_true → zbc, or_eq_true → zbd, or_eq_false_iff → zbe
open Int renaming ofNat_lt → zia, ofNat_le → zib, not_lt → zic, not_le → zid
open Decidable renaming not_not → zda
set_option maxRecDepth 100000

@[reducible] def D.sp (v : List Int) : D := D.tms (spT v)
structure RowsB (p : Int) (u : Nat) (R : List (List Int)) : Prop where
  vec : AllV p (2 ^ u) R
  nz : ∀ r ∈ R, ¬ ldI r < 0
  bd : R.length ≤ 64
def restK (p : Int) (R : List (List Int)) (a : List Int) (i : Nat) : List Int := redD p ldG (R.drop (R.length - i)).reverse a
section
variable {p : Int} {u : Nat} (hp : 1 < p ∧ p ≤ 5) (hu : u ≤ 6)
include hp hu
end
section
variable {p : Int} {u : Nat} (hp : p = 2 ∨ p = 3 ∨ p = 5) (hu : u ≤ 6)
include hp hu
end
end Abs.Y

namespace Abs.Y
open Go Go.Proofs Abs
open Nat renaming reduceEqDiff → zqa, reduceLT → zqb, reduceAdd → zqc, reduceMul → zqd, reduceSub → zqe, reduceLeDiff → zqf, reduceSubDiff → zqg, reduceBEq → zqh
open Bool renaming not_eq_true' → zba, not_eq_false' → zbb, and_eq_true → zbc, or_eq_true → zbd, or_eq_false_iff → zbe
open Int renaming ofNat_lt → zia, ofNat_le → zib, not_lt → zic, not_le → zid
open Decidable renaming not_not → zda
set_option maxRecDepth 100000

def goodL (p v : Int) (cs : List (List Int)) (list : List (List (Int × Int))) : Bool := ((okCnf v cs && primeB p v) && decide (list.length = cs.length)) && list.all (isT p (2 ^ v.toNat))
theorem l19Takes_ok (p v : Int) (cs : List (List Int)) (hl : cs.length ≤ 4294967296) (hc : ∀ j, (cs.getD j []).length ≤ 4294967296) :
    Ctr Tryz.prog 14 [.int .i64 p, .agg [.int .i64 v, .slice (cs.map D.ints)]] false (.d (.bool (okCnf v cs && primeB p v))) [] := by
  have c1 := l2Good_ok v cs hl hc
  have c2 := l18Prime_ok p v
  generalize okCnf v cs = a at *
  generalize primeB p v = b at *
  refine Ctr.of (n := 13) (rs := [.tmp 4]) Tryz.func14 rfl rfl Tryz.ntmps14 rfl rfl (by kernel_rfl) Tryz.checked.mixed ?_
  simp (disch := first | omega | decide +kernel) only [D.ints, go_sem, zqa, zqb, zqc, zqd, zqe, ↓reduceIte, reduceCtorEq, zqf, zqg, zqh]
  (repeat' (first | ((first | (refine gsel_split (fun q' => ?_) (fun q' => ?_) <;> (have h' := q') <;> (try simp only [decide_eq_true_eq, decide_eq_false_iff_not, zba, zbb, bne_iff_ne, ne_eq, beq_iff_eq, bne_eq_false_iff_eq, beq_eq_false_iff_ne, zia, zib, zic, zid, zda, zbc, zbd, zbe, gt_iff_lt, ge_iff_le] at h') <;> try (exfalso; omega)) | (have q' := trivial; first | refine callX_new (c1) rfl (by decide) ?_ | refine callY_new (c1) rfl ?_ | refine callX_new (c2) rfl (by decide) ?_ | refine callY_new (c2) rfl ?_ | refine hE _ _ ret_ne ?_ | refine hE _ _ exit_ne ?_)) <;> (try simp (disch := first | omega | decide +kernel) only [q', D.ints, go_sem, zqa, zqb, zqc, zqd, zqe, ↓reduceIte, reduceCtorEq, zqf, zqg, zqh]) <;> clear q') | (refine hN _ ?_ ?_ Wk.kk) | (with_reducible refine And.intro ?_ ?_) | (with_reducible omega) | (exact ok_ints) | (exact cells_ints) | (exact no_mem) | (with_reducible exact plain_ints) | (refine le_maxLen ?_; omega) | (refine List.forall_mem_cons.2 ⟨?_, ?_⟩) | (simp only [go_sem, zqc, zqb, List.mem_cons, List.not_mem_nil, forall_eq]; done)))
  all_goals (first | omega | (simp_all [D.plain]; done))
end Abs.Y
