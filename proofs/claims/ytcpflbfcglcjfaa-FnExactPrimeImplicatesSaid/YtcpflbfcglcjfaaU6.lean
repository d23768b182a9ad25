/- What functions of this program compute, as contracts over plain data, with what the proofs need of them. No condition. -/
import Derived.Test.YtcpflbfcglcjfaaAbsReg7
set_option linter.all false
namespace Abs.Y
open Go Go.Proofs Abs
open Nat renaming reduceEqDiff -> Qa, reduceLT -> Qb, reduceAdd -> Qc, reduceMul -> Qd, reduceSub -> Qe, reduceLeDiff -> Qf, reduceSubDiff -> Qg, reduceBEq -> Qh
open Bool renaming not_eq_true' -> Ba, not_eq_false' -> Bb, and_eq_true -> Bc, or_eq_true -> Bd, or_eq_false_iff -> Be
open Int renaming ofNat_lt -> Ia, ofNat_le -> Ib, not_lt -> Ic, not_le -> Ie
open Decidable renaming not_not -> Da
set_option maxRecDepth 100000

def zC : List Int × Nat := ([], 0)
structure InvC (cs : List (List Int)) (w r : Nat) (L : CT) (frm : Nat) : Prop where
 nd : (keysC L).Nodup
 mem : ∀ c k, (c, k) ∈ L ↔ k <= r ∧ NewC cs w k c
 old : ∀ i, i < L.length -> (frm <= i ↔ (L.getD i zC).2 = r)
 le : frm <= L.length
def ResP (a b c : List Int) : Prop := ∃ v, 1 <= v ∧ (resolveI a b v = some c ∨ resolveI b a v = some c)
structure InvI (cs : List (List Int)) (w r : Nat) (L E : CT) (D : Nat -> Nat -> Prop) : Prop where
 nd : (keysC (L ++ E)).Nodup
 snd : ∀ p ∈ E, p.2 = r + 1 ∧ NewC cs w (r + 1) p.1
 cmp : ∀ i j, i < L.length -> j < i -> D i j -> ∀ c, ResP (L.getD i zC).1 (L.getD j zC).1 c -> c.length <= w -> ∃ k, (c, k) ∈ L ++ E
theorem getD_memC {L : CT} {i : Nat} (h : i < L.length) : L.getD i zC ∈ L := getD_mem h
section
variable {cs : List (List Int)} {w r : Nat} {L E : CT} {frm : Nat} {D : Nat -> Nat -> Prop}
theorem InvC.g6 (hg : ∀ c ∈ cs, G6 c) (h : InvC cs w r L frm) : ∀ p ∈ L, G6 p.1 := fun p hp => new_g6 hg ((h.mem p.1 p.2).1 hp).2
theorem InvI.g6 (hg : ∀ c ∈ cs, G6 c) (h : InvC cs w r L frm) (h' : InvI cs w r L E D) : ∀ p ∈ L ++ E, G6 p.1 := fun p hp => by
 rcases List.mem_append.1 hp with hp | hp
 . exact h.g6 hg p hp
 . exact new_g6 hg (h'.snd p hp).2
theorem InvC.cl (h : InvC cs w r L frm) {p} (hp : p ∈ L) : Cl cs w r p.1 := by
 obtain ⟨h1, h2⟩ := (h.mem p.1 p.2).1 hp
 exact cl_mono h1 (new_cl h2)
theorem InvC.start (h : InvC cs w r L frm) : InvI cs w r L [] (fun i _ => i < frm) where
 nd := by rw [List.append_nil]; exact h.nd
 snd p hp := nomatch hp
 cmp i j hi hj hd c hc hl := by
  -- both were there before the last round
  obtain ⟨v, hv, hr⟩ := hc
  have key : ∀ t, t < frm -> t < L.length -> r ≠ 0 ∧ ∃ k, k < r ∧ NewC cs w k (L.getD t zC).1 := fun t ht htl => by
   have h1 := (h.mem _ _).1 (show ((L.getD t zC).1, (L.getD t zC).2) ∈ L from getD_memC htl)
   have h2 : ¬ (L.getD t zC).2 = r := fun e => by have := (h.old t htl).2 e; omega
   exact ⟨by omega, _, by omega, h1.2⟩
  obtain ⟨r0, k1, h1, n1⟩ := key i hd hi
  obtain ⟨_, k2, h2, n2⟩ := key j (by omega) (by omega)
  obtain ⟨s, rfl⟩ : ∃ s, r = s + 1 := ⟨r - 1, by omega⟩
  have ca := cl_mono (show k1 <= s by omega) (new_cl n1)
  have cb := cl_mono (show k2 <= s by omega) (new_cl n2)
  have cc : Cl cs w (s + 1) c := by
   rcases hr with hr | hr
   . exact .inr ⟨hl, _, _, v, hv, ca, cb, hr⟩
   . exact .inr ⟨hl, _, _, v, hv, cb, ca, hr⟩
  obtain ⟨k, hk, hn⟩ := cl_new cc
  exact ⟨k, by rw [List.append_nil]; exact (h.mem c k).2 ⟨hk, hn⟩⟩
theorem InvI.mono {D' : Nat -> Nat -> Prop} (h : InvI cs w r L E D) (hd : ∀ i j, i < L.length -> j < i -> D' i j -> D i j) : InvI cs w r L E D' :=
 ⟨h.nd, h.snd, fun i j hi hj hD => h.cmp i j hi hj (hd i j hi hj hD)⟩
theorem InvI.skip (h : InvI cs w r L E D) {i j : Nat} (hs : ∀ c, ResP (L.getD i zC).1 (L.getD j zC).1 c -> c.length <= w -> ∃ k, (c, k) ∈ L ++ E) : InvI cs w r L E (fun a b => D a b ∨ (a = i ∧ b = j)) :=
 ⟨h.nd, h.snd, fun a b ha hb hD => by
  rcases hD with hD | ⟨rfl, rfl⟩
  . exact h.cmp a b ha hb hD
  . exact hs⟩
theorem resP_uniq {a b c d : List Int} (ga : G6 a) (gb : G6 b) (h1 : ResP a b c) (h2 : ResP a b d) : c = d := by
 obtain ⟨v, hv, h1⟩ := h1
 obtain ⟨v', hv', h2⟩ := h2
 have gc : ∀ {c v}, 1 <= v -> (resolveI a b v = some c ∨ resolveI b a v = some c) -> G6 c := fun hv h => by
  rcases h with h | h
  . exact (resolveI_some ga gb hv h).2.2.2.1
  . exact (resolveI_some gb ga hv h).2.2.2.1
 exact mkN_inj (gc hv h1) (gc hv' h2) ((mask_out ga gb hv h1).symm.trans (mask_out ga gb hv' h2))
theorem InvI.put (hg : ∀ c ∈ cs, G6 c) (hC : InvC cs w r L frm) (h : InvI cs w r L E D) {i j : Nat} (hi : i < L.length) (hj : j < i) {c : List Int} (hc : ResP (L.getD i zC).1 (L.getD j zC).1 c) (hl : c.length <= w) (hn : ∀ k, (c, k) ∉ L ++ E) :
 InvI cs w r L (E ++ [(c, r + 1)]) (fun a b => D a b ∨ (a = i ∧ b = j)) where
 nd := by
  have h1 : keysC (L ++ (E ++ [(c, r + 1)])) = keysC (L ++ E) ++ [c] := by simp [keysC]
  rw [h1, List.nodup_append]
  refine ⟨h.nd, by simp, fun x hx y hy e => ?_⟩
  obtain rfl := List.mem_singleton.1 hy
  subst e
  obtain ⟨p, hp, e⟩ := List.mem_map.1 hx
  exact hn p.2 (by rw [← e]; exact hp)
 snd p hp := by
  rcases List.mem_append.1 hp with hp | hp
  . exact h.snd p hp
  . obtain rfl := List.mem_singleton.1 hp
    refine ⟨rfl, ?_, fun hcl => ?_⟩
    . obtain ⟨v, hv, hr⟩ := hc
      have ca := hC.cl (getD_memC hi)
      have cb := hC.cl (getD_memC (show j < L.length by omega))
      rcases hr with hr | hr
      . exact .inr ⟨hl, _, _, v, hv, ca, cb, hr⟩
      . exact .inr ⟨hl, _, _, v, hv, cb, ca, hr⟩
    . obtain ⟨k, hk, hnk⟩ := cl_new hcl
      exact hn k (List.mem_append.2 (.inl ((hC.mem c k).2 ⟨hk, hnk⟩)))
 cmp a b ha hb hD d hd hdl := by
  rcases hD with hD | ⟨rfl, rfl⟩
  . obtain ⟨k, hk⟩ := h.cmp a b ha hb hD d hd hdl
    exact ⟨k, by rw [← List.append_assoc]; exact List.mem_append.2 (.inl hk)⟩
  . have := resP_uniq (hC.g6 hg _ (getD_memC ha)) (hC.g6 hg _ (getD_memC (show b < L.length by omega))) hc hd
    subst this
    exact ⟨r + 1, by simp⟩
theorem InvI.done (hg : ∀ c ∈ cs, G6 c) (hC : InvC cs w r L frm) (h : InvI cs w r L E (fun _ _ => True)) : InvC cs w (r + 1) (L ++ E) L.length where
 nd := h.nd
 mem c k := by
  constructor
  . intro hp
    rcases List.mem_append.1 hp with hp | hp
    . have := (hC.mem c k).1 hp
      exact ⟨by omega, this.2⟩
    . obtain ⟨h1, h2⟩ := h.snd _ hp
      simp only at h1 h2
      subst h1
      exact ⟨Nat.le_refl _, h2⟩
  . rintro ⟨hk, hn⟩
    by_cases hkr : k <= r
    . exact List.mem_append.2 (.inl ((hC.mem c k).2 ⟨hkr, hn⟩))
    obtain rfl : k = r + 1 := by omega
    obtain ⟨hcl, hno⟩ := hn
    rcases hcl with hcl | ⟨hl, a, b, v, hv, ca, cb, hr⟩
    . exact absurd hcl hno
    . obtain ⟨ka, hka, na⟩ := cl_new ca
      obtain ⟨kb, hkb, nb⟩ := cl_new cb
      obtain ⟨p, hp, ep⟩ := List.getElem_of_mem ((hC.mem a ka).2 ⟨hka, na⟩)
      obtain ⟨q, hq, eq⟩ := List.getElem_of_mem ((hC.mem b kb).2 ⟨hkb, nb⟩)
      have gp : (L.getD p zC).1 = a := by simp [List.getD_eq_getElem?_getD, hp, ep]
      have gq : (L.getD q zC).1 = b := by simp [List.getD_eq_getElem?_getD, hq, eq]
      have ga := cl_g6 hg r a ca
      have gb := cl_g6 hg r b cb
      have hab : a ≠ b := fun e => by
       subst e
       obtain ⟨_, h1, h2, _⟩ := resolveI_some ga gb hv hr
       exact good_neg ga.1 h1 h2
      have hpq : p ≠ q := fun e => by subst e; exact hab (gp.symm.trans gq)
      have fin : ∃ k, (c, k) ∈ L ++ E := by
       rcases Nat.lt_or_gt_of_ne hpq with h1 | h1
       . exact h.cmp q p hq h1 trivial c ⟨v, hv, by rw [gp, gq]; exact .inr hr⟩ hl
       . exact h.cmp p q hp h1 trivial c ⟨v, hv, by rw [gp, gq]; exact .inl hr⟩ hl
      obtain ⟨k, hk'⟩ := fin
      rcases List.mem_append.1 hk' with h1 | h1
      . obtain ⟨h2, h3⟩ := (hC.mem c k).1 h1
        exact absurd (cl_mono h2 (new_cl h3)) hno
      . have := (h.snd _ h1).1
        simp only at this
        subst this
        exact hk'
 old i hi := by
  rw [List.length_append] at hi
  rw [getD_app]
  by_cases hil : i < L.length
  . rw [if_pos hil]
    have := ((hC.mem _ _).1 (show ((L.getD i zC).1, (L.getD i zC).2) ∈ L from getD_memC hil)).1
    constructor <;> intro h' <;> omega
  . rw [if_neg hil]
    have := (h.snd _ (getD_memC (show i - L.length < E.length by omega))).1
    constructor <;> intro h'
    . exact this
    . omega
 le := by rw [List.length_append]; omega
end
end Abs.Y
