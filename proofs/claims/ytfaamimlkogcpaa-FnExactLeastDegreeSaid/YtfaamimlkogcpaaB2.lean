/- What functions of this program compute, as contracts over plain data, with what the proofs need of them. No condition. -/
import Derived.Test.YtfaamimlkogcpaaH1
set_option linter.all false
namespace Abs.Y
open Go Go.Proofs Abs
open Nat renaming reduceEqDiff → zqa, reduceLT → zqb, reduceAdd → zqc, reduceMul → zqd, reduceSub → zqe, reduceLeDiff → zqf, reduceSubDiff → zqg, reduceBEq → zqh
open Bool renaming not_eq_true' → zba, not_eq_false' → zbb, and_eq_true → zbc, or_eq_true → zbd, or_eq_false_iff → zbe
open Int renaming ofNat_lt → zia, ofNat_le → zib, not_lt → zic, not_le → zid
open Decidable renaming not_not → zda
set_option maxRecDepth 100000

theorem sumR_add (k : Nat) (f g : Nat → Int) : sumR k (fun i => f i + g i) = sumR k f + sumR k g := by
  induction k with
  | zero => rfl
  | succ k ih => rw [sumR_succ, sumR_succ, sumR_succ, ih]; omega
theorem sumR_zero (k : Nat) : sumR k (fun _ => 0) = 0 := by
  induction k with
  | zero => rfl
  | succ k ih => rw [sumR_succ, ih]; rfl
theorem sumR_comm (k l : Nat) (f : Nat → Nat → Int) : sumR k (fun i => sumR l (fun j => f i j)) = sumR l (fun j => sumR k (fun i => f i j)) := by
  induction k with
  | zero => exact (sumR_zero l).symm
  | succ k ih =>
    rw [sumR_succ, ih, ← sumR_add]
    exact sumR_congr fun j _ => (sumR_succ k fun i => f i j).symm
theorem sumR_pt {k m : Nat} (x : Nat → Int) (hm : m < k) : sumR k (fun j => if m = j then x j else 0) = x m := by
  induction k with
  | zero => omega
  | succ k ih =>
    rw [sumR_succ]
    by_cases h : m = k
    · subst h
      rw [if_pos rfl, show sumR m (fun j => if m = j then x j else 0) = sumR m (fun _ => 0) from sumR_congr fun j hj => if_neg (by omega), sumR_zero]; omega
    · rw [if_neg h, ih (by omega)]; omega
theorem sumR_mod {p : Int} {k : Nat} {f g : Nat → Int} (h : ∀ i, i < k → ∃ t, f i = g i + p * t) : ∃ T, sumR k f = sumR k g + p * T := by
  induction k with
  | zero => exact ⟨0, by simp [sumR]⟩
  | succ k ih =>
    obtain ⟨T, hT⟩ := ih fun i hi => h i (by omega)
    obtain ⟨t, ht⟩ := h k (by omega)
    exact ⟨T + t, by rw [sumR_succ, sumR_succ, hT, ht]; grind⟩
theorem sumR_mulr (k : Nat) (c : Int) (f : Nat → Int) : sumR k (fun i => f i * c) = sumR k f * c := by
  rw [Int.mul_comm, ← sumR_mul]; exact sumR_congr fun i _ => Int.mul_comm _ _
def evS (v : List Int) (x : Nat) : Int := sumR v.length fun m => if m &&& x = m then v.getD m 0 else 0
def ev (p : Int) (v : List Int) (x : Nat) : Int := evS v x % p
theorem or_sub (m i b : Nat) : (m ||| i) &&& b = m ||| i ↔ m &&& b = m ∧ i &&& b = i := by
  constructor
  · intro h
    refine ⟨Nat.eq_of_testBit_eq fun t => ?_, Nat.eq_of_testBit_eq fun t => ?_⟩ <;>
    · have := congrArg (fun n => Nat.testBit n t) h
      simp only [Nat.testBit_and, Nat.testBit_or] at this ⊢
      revert this
      cases m.testBit t <;> cases i.testBit t <;> cases b.testBit t <;> decide
  · rintro ⟨h1, h2⟩
    rw [Nat.and_or_distrib_right, h1, h2]
theorem bit_sub (k x : Nat) : 2 ^ k &&& x = 2 ^ k ↔ x.testBit k = true := by
  constructor
  · intro h
    have := congrArg (fun n => Nat.testBit n k) h
    simp only [Nat.testBit_and, Nat.testBit_two_pow_self, Bool.true_and] at this
    exact this
  · intro h
    refine Nat.eq_of_testBit_eq fun t => ?_
    rw [Nat.testBit_and, Nat.testBit_two_pow]
    by_cases e : k = t
    · subst e; simp [h]
    · simp [e]
section
variable {p : Int} (hp : 1 < p)
include hp
theorem ev_bd (v : List Int) (x : Nat) : 0 ≤ ev p v x ∧ ev p v x < p := ⟨Int.emod_nonneg _ (by omega), Int.emod_lt_of_pos _ (by omega)⟩
theorem ev_mul {u : Nat} {a b : List Int} (ha : a.length = 2 ^ u) (hb : b.length = 2 ^ u) (x : Nat) : ev p (mulD p (2 ^ u) a b) x = ev p a x * ev p b x % p := by
  have hl : (mulD p (2 ^ u) a b).length = 2 ^ u := (Vec.mulD (by omega) _ _ _).1
  have h1 : ∃ T, evS (mulD p (2 ^ u) a b) x = sumR (2 ^ u) (fun j => sumR (2 ^ u) fun m => sumR (2 ^ u) fun i => if j &&& x = j ∧ m ||| i = j then a.getD m 0 * b.getD i 0 else 0) + p * T := by
    unfold evS
    rw [hl]
    refine sumR_mod fun j hj => ?_
    by_cases hx : j &&& x = j
    · rw [if_pos hx, mul_get (by omega) j hj, ha]
      obtain ⟨t, ht⟩ := emod_wit p (sumR (2 ^ u) fun m => a.getD m 0 * shD b m j)
      refine ⟨t, ?_⟩
      rw [ht]
      congr 1
      refine sumR_congr fun m _ => ?_
      rw [shD, hb, ← sumR_mul]
      refine sumR_congr fun i _ => ?_
      by_cases h : m ||| i = j
      · rw [if_pos h, if_pos ⟨hx, h⟩]
      · rw [if_neg h, if_neg fun h' => h h'.2, Int.mul_zero]
    · refine ⟨0, ?_⟩
      rw [if_neg hx, Int.mul_zero, Int.add_zero]
      refine ((sumR_congr fun m _ => ?_).trans (sumR_zero _)).symm
      refine (sumR_congr fun i _ => ?_).trans (sumR_zero _)
      rw [if_neg fun h => hx h.1]
  have h2 : sumR (2 ^ u) (fun j => sumR (2 ^ u) fun m => sumR (2 ^ u) fun i => if j &&& x = j ∧ m ||| i = j then a.getD m 0 * b.getD i 0 else 0) = evS a x * evS b x := by
    rw [sumR_comm]
    unfold evS
    rw [ha, hb, ← sumR_mulr]
    refine sumR_congr fun m hm => ?_
    rw [sumR_comm, ← sumR_mul]
    refine sumR_congr fun i hi => ?_
    have hlt : m ||| i < 2 ^ u := Nat.or_lt_two_pow hm hi
    have := sumR_pt (k := 2 ^ u) (fun j => if j &&& x = j then a.getD m 0 * b.getD i 0 else 0) hlt
    refine (sumR_congr (g := fun j => if m ||| i = j then (if j &&& x = j then a.getD m 0 * b.getD i 0 else 0) else 0) fun j _ => ?_).trans (this.trans ?_)
    · by_cases h : m ||| i = j
      · by_cases h2 : j &&& x = j
        · rw [if_pos ⟨h2, h⟩, if_pos h, if_pos h2]
        · rw [if_neg fun h3 => h2 h3.1, if_pos h, if_neg h2]
      · rw [if_neg fun h3 => h h3.2, if_neg h]
    · show (if (m ||| i) &&& x = m ||| i then _ else _) = _
      by_cases h1 : m &&& x = m
      · by_cases h2 : i &&& x = i
        · rw [if_pos ((or_sub m i x).2 ⟨h1, h2⟩), if_pos h1, if_pos h2]
        · rw [if_neg fun h => h2 ((or_sub m i x).1 h).2, if_pos h1, if_neg h2, Int.mul_zero]
      · rw [if_neg fun h => h1 ((or_sub m i x).1 h).1, if_neg h1, Int.zero_mul]
  obtain ⟨T, hT⟩ := h1
  unfold ev
  rw [hT, h2, Int.add_mul_emod_self_left, Int.mul_emod]
theorem ev_add {k : Int} {n : Nat} {a b : List Int} (ha : a.length = n) (hb : b.length = n) (x : Nat) : ev p (addD p k a b) x = (ev p a x + k * ev p b x) % p := by
  have hl : (addD p k a b).length = n := by rw [addD_len (by omega), ha]
  have h1 : ∃ T, evS (addD p k a b) x = evS a x + k * evS b x + p * T := by
    unfold evS
    rw [hl, ha, hb, ← sumR_mul, ← sumR_add]
    refine sumR_mod fun m _ => ?_
    by_cases h : m &&& x = m
    · rw [if_pos h, if_pos h, if_pos h, addD_get (by omega)]; exact emod_wit p _
    · rw [if_neg h, if_neg h, if_neg h]; exact ⟨0, by simp⟩
  obtain ⟨T, hT⟩ := h1
  unfold ev
  rw [hT, Int.add_mul_emod_self_left]
  obtain ⟨t1, e1⟩ := emod_wit p (evS a x)
  obtain ⟨t2, e2⟩ := emod_wit p (evS b x)
  rw [e1, e2]
  exact emod_eq_of (-(t1 + k * t2)) (by grind)
theorem ev_zero (n x : Nat) : ev p (List.replicate n 0) x = 0 := by
  unfold ev evS
  rw [show (sumR (List.replicate n (0 : Int)).length fun m => if m &&& x = m then (List.replicate n (0 : Int)).getD m 0 else 0) = sumR (List.replicate n (0 : Int)).length fun _ => 0 from sumR_congr fun m _ => by rw [getD_rep]; split <;> rfl, sumR_zero]; rfl
theorem mono_get {u m : Nat} (hm : m < 2 ^ u) (i : Nat) : (monoD u m).getD i 0 = if m = i then 1 else 0 := by
  unfold monoD
  rw [getD_set, getD_rep]
  by_cases h : m = i
  · rw [if_pos ⟨h, by simp; omega⟩, if_pos h]
  · rw [if_neg fun h' => h h'.1, if_neg h]
theorem ev_mono {u m : Nat} (hm : m < 2 ^ u) (x : Nat) : ev p (monoD u m) x = if m &&& x = m then 1 else 0 := by
  have h : evS (monoD u m) x = if m &&& x = m then 1 else 0 := by
    unfold evS
    rw [mono_len]
    refine (sumR_congr (g := fun i => if m = i then (if i &&& x = i then 1 else 0) else 0) fun i _ => ?_).trans (sumR_pt (fun i => if i &&& x = i then 1 else 0) hm)
    rw [mono_get (p := p) hp hm]
    by_cases e : m = i
    · rw [if_pos e, if_pos e]
    · rw [if_neg e, if_neg e]; split <;> rfl
  unfold ev
  rw [h]
  split
  · exact Int.emod_eq_of_lt (by decide) hp
  · rfl
theorem ev_one (u x : Nat) : ev p (monoD u 0) x = 1 := by
  rw [ev_mono hp (Nat.two_pow_pos u), if_pos (by simp)]
theorem ev_lit {u : Nat} {l : Int} (hl : LitU u l) (x : Nat) : ev p (litD p u l) x = if x.testBit (l.natAbs - 1) = decide (0 < l) then 1 else 0 := by
  unfold litD
  by_cases h : 0 < l
  · have e : (l - 1).toNat = l.natAbs - 1 := by omega
    rw [if_pos h, e, ev_mono hp (two_pow_lt (by unfold LitU at hl; omega)), decide_eq_true h]
    by_cases hb : x.testBit (l.natAbs - 1) = true
    · rw [if_pos ((bit_sub _ _).2 hb), if_pos hb]
    · rw [if_neg fun h' => hb ((bit_sub _ _).1 h'), if_neg hb]
  · have e : (0 - l - 1).toNat = l.natAbs - 1 := by omega
    rw [if_neg h, e, ev_add hp (mono_len _ _) (mono_len _ _), ev_one hp, ev_mono hp (two_pow_lt (by unfold LitU at hl; omega)), decide_eq_false h]
    by_cases hb : x.testBit (l.natAbs - 1) = true
    · rw [if_pos ((bit_sub _ _).2 hb), if_neg (by rw [hb]; decide)]
      rw [show 1 + (p - 1) * 1 = p by omega, Int.emod_self]
    · rw [if_neg fun h' => hb ((bit_sub _ _).1 h'), if_pos (by simpa using hb)]
      rw [Int.mul_zero, Int.add_zero]; exact Int.emod_eq_of_lt (by decide) hp
def litT (x : Nat) (l : Int) : Bool := x.testBit (l.natAbs - 1) == decide (0 < l)
omit hp in
theorem litT_neg {x : Nat} {l : Int} (h : l ≠ 0) : litT x (0 - l) = !litT x l := by
  unfold litT
  rw [show (0 - l).natAbs = l.natAbs by omega]
  by_cases h1 : 0 < l
  · rw [decide_eq_true h1, decide_eq_false (show ¬ 0 < 0 - l by omega)]; cases x.testBit (l.natAbs - 1) <;> rfl
  · rw [decide_eq_false h1, decide_eq_true (show 0 < 0 - l by omega)]; cases x.testBit (l.natAbs - 1) <;> rfl
theorem ev_clause {u : Nat} {c : List Int} (hc : ∀ l ∈ c, LitU u l) (x : Nat) : ev p (clauseD p u c) x = if c.any (litT x) then 0 else 1 := by
  have hg : ∀ (c : List Int) (v : List Int), v.length = 2 ^ u → (∀ l ∈ c, LitU u l) → ev p (c.foldl (fun v l => mulD p (2 ^ u) v (litD p u (0 - l))) v) x = if c.any (litT x) then 0 else ev p v x := by
    intro c
    induction c with
    | nil => intro v _ _; rfl
    | cons l c ih =>
      intro v hv hc
      have hl := hc l (by simp)
      have hL : LitU u (0 - l) := by unfold LitU at hl ⊢; omega
      have hn : l ≠ 0 := by unfold LitU at hl; omega
      have hvl := (Vec.lit (p := p) hp u (0 - l)).1
      rw [List.foldl_cons, ih _ (Vec.mulD (by omega) _ _ _).1 fun l' h' => hc l' (by simp [h']), ev_mul hp hv hvl, ev_lit hp hL, List.any_cons]
      have e : (x.testBit ((0 - l).natAbs - 1) = decide (0 < 0 - l)) ↔ litT x l = false := by
        have := litT_neg (x := x) hn
        unfold litT at this ⊢
        cases h1 : (x.testBit (l.natAbs - 1) == decide (0 < l))
        · rw [h1] at this; simpa using this
        · rw [h1] at this; simpa using this
      by_cases ha : c.any (litT x) = true
      · rw [if_pos ha, if_pos (by rw [ha, Bool.or_true])]
      · rw [if_neg ha]
        cases h1 : litT x l with
        | true =>
          rw [if_neg (fun h => by rw [e.1 h] at h1; cases h1), Int.mul_zero, Int.zero_emod, if_pos (by simp)]
        | false =>
          rw [if_pos (e.2 h1), Int.mul_one, Bool.false_or, if_neg ha]
          have := ev_bd hp v x
          rw [Int.emod_eq_of_lt this.1 this.2]
  unfold clauseD
  rw [hg c _ (mono_len u 0) hc, ev_one hp]
theorem sum_below {v : List Int} {x : Nat} : evS v x = sumR x (fun m => if m &&& x = m then v.getD m 0 else 0) + v.getD x 0 := by
  have hgt : ∀ m, x < m → ¬ m &&& x = m := fun m hm e => by have := Nat.and_le_right (n := m) (m := x); omega
  have key : ∀ k, x < k → sumR k (fun m => if m &&& x = m then v.getD m 0 else 0) = sumR x (fun m => if m &&& x = m then v.getD m 0 else 0) + v.getD x 0 := by
    intro k
    induction k with
    | zero => intro h; omega
    | succ k ih =>
      intro h
      rw [sumR_succ]
      by_cases e : x = k
      · subst e; rw [if_pos (Nat.and_self x)]
      · rw [ih (by omega), if_neg (hgt k (by omega))]; omega
  by_cases h : x < v.length
  · exact key _ h
  · unfold evS
    rw [getD_oob (by omega : v.length ≤ x), Int.add_zero]
    have : ∀ k, v.length ≤ k → sumR v.length (fun m => if m &&& x = m then v.getD m 0 else 0) = sumR k (fun m => if m &&& x = m then v.getD m 0 else 0) := by
      intro k hk
      obtain ⟨d, rfl⟩ := Nat.exists_eq_add_of_le hk
      clear hk
      induction d with
      | zero => rfl
      | succ d ih => rw [← Nat.add_assoc, sumR_succ, ← ih, getD_oob (by omega)]; simp
    exact this x (by omega)
theorem ev_inj {u : Nat} {v w : List Int} (hv : Vec p (2 ^ u) v) (hw : Vec p (2 ^ u) w) (h : ∀ x, x < 2 ^ u → ev p v x = ev p w x) : v = w := by
  have key : ∀ x, x < 2 ^ u → v.getD x 0 = w.getD x 0 := by
    intro x
    induction x using Nat.strongRecOn with
    | ind x ih =>
      intro hx
      have h1 := h x hx
      unfold ev at h1
      rw [sum_below hp, sum_below hp, show (sumR x fun m => if m &&& x = m then v.getD m 0 else 0) = sumR x fun m => if m &&& x = m then w.getD m 0 else 0 from sumR_congr fun m hm => by rw [ih m hm (by omega)]] at h1
      have h2 := hv.2 x
      have h3 := hw.2 x
      have h4 := Int.emod_emod_of_dvd
      generalize (sumR x fun m => if m &&& x = m then w.getD m 0 else 0) = s at h1
      obtain ⟨t1, e1⟩ := emod_wit p (s + v.getD x 0)
      obtain ⟨t2, e2⟩ := emod_wit p (s + w.getD x 0)
      have h5 : v.getD x 0 - w.getD x 0 = p * (t2 - t1) := by rw [Int.mul_sub]; omega
      have h6 : t2 - t1 = 0 := by
        rcases Int.lt_trichotomy (t2 - t1) 0 with h6 | h6 | h6
        · have := Int.mul_le_mul_of_nonneg_left (show t2 - t1 ≤ -1 by omega) (show 0 ≤ p by omega); omega
        · exact h6
        · have := Int.mul_le_mul_of_nonneg_left (show 1 ≤ t2 - t1 by omega) (show 0 ≤ p by omega); omega
      rw [h6] at h5; omega
  refine vec_ext (p := p) hv.1 hw.1 fun i => ?_
  by_cases hi : i < 2 ^ u
  · exact key i hi
  · rw [getD_oob (by rw [hv.1]; omega), getD_oob (by rw [hw.1]; omega)]
end
end Abs.Y

namespace Abs.Y
open Go Go.Proofs Abs
open Nat renaming reduceEqDiff → zqa, reduceLT → zqb, reduceAdd → zqc, reduceMul → zqd, reduceSub → zqe, reduceLeDiff → zqf, reduceSubDiff → zqg, reduceBEq → zqh
open Bool renaming not_eq_true' → zba, not_eq_false' → zbb, and_eq_true → zbc, or_eq_true → zbd, or_eq_false_iff → zbe
open Int renaming ofNat_lt → zia, ofNat_le → zib, not_lt → zic, not_le → zid
open Decidable renaming not_not → zda
set_option maxRecDepth 100000

def prodC (p : Int) (u : Nat) (c : List Int) (m : Nat) : List Int := mulD p (2 ^ u) (clauseD p u c) (monoD u m)
def GmL (u : Nat) (d : Int) (L : List Nat) : Prop := ∀ m, m ∈ L ↔ m < 2 ^ u ∧ (cnt m : Int) ≤ d
def prodsP (p : Int) (u : Nat) (G : Int → List Nat) (cs : List (List Int)) (d : Int) : List (List Int) := cs.flatMap fun c => if (c.length : Int) ≤ d then (G (d - c.length)).map (prodC p u c) else []
theorem prodC_vec {p : Int} (hp : 1 < p) (u : Nat) (c : List Int) (m : Nat) : Vec p (2 ^ u) (prodC p u c m) := Vec.mulD (by omega) _ _ _
theorem prodsP_mem {p : Int} {u : Nat} {G : Int → List Nat} {cs : List (List Int)} {d : Int} (hG : ∀ d, GmL u d (G d)) {a : List Int} :
    a ∈ prodsP p u G cs d ↔ ∃ c ∈ cs, (c.length : Int) ≤ d ∧ ∃ m, m < 2 ^ u ∧ (cnt m : Int) ≤ d - c.length ∧ a = prodC p u c m := by
  unfold prodsP
  rw [List.mem_flatMap]
  constructor
  · rintro ⟨c, hc, h⟩
    by_cases hl : (c.length : Int) ≤ d
    · rw [if_pos hl, List.mem_map] at h
      obtain ⟨m, hm, rfl⟩ := h
      obtain ⟨h1, h2⟩ := (hG _ m).1 hm
      exact ⟨c, hc, hl, m, h1, h2, rfl⟩
    · rw [if_neg hl] at h; cases h
  · rintro ⟨c, hc, hl, m, h1, h2, rfl⟩
    exact ⟨c, hc, by rw [if_pos hl, List.mem_map]; exact ⟨m, (hG _ m).2 ⟨h1, h2⟩, rfl⟩⟩
theorem prodsP_vec {p : Int} (hp : 1 < p) {u : Nat} {G : Int → List Nat} {cs : List (List Int)} {d : Int} : AllV p (2 ^ u) (prodsP p u G cs d) := fun a ha => by
  unfold prodsP at ha
  rw [List.mem_flatMap] at ha
  obtain ⟨c, _, h⟩ := ha
  split at h
  · rw [List.mem_map] at h
    obtain ⟨m, _, rfl⟩ := h
    exact prodC_vec hp u c m
  · cases h
theorem prodsP_eq {p : Int} {u : Nat} {G G' : Int → List Nat} {cs : List (List Int)} {d : Int} (hG : ∀ d, GmL u d (G d)) (hG' : ∀ d, GmL u d (G' d)) : SpEq p (2 ^ u) (prodsP p u G cs d) (prodsP p u G' cs d) := fun v =>
  ⟨Sp.mono fun r hr => (prodsP_mem hG').2 ((prodsP_mem hG).1 hr), Sp.mono fun r hr => (prodsP_mem hG).2 ((prodsP_mem hG').1 hr)⟩
theorem cnt_bits : ∀ u, u < 7 → ∀ m, m < 2 ^ u → cnt m = ((List.range u).filter fun k => m.testBit k).length := by decide +kernel
theorem bit_out : ∀ m, m < 64 → ∀ k, k < 6 → m.testBit k = true → (m - 2 ^ k) ||| 2 ^ k = m ∧ m - 2 ^ k < m := by decide +kernel
theorem testBit_lt {u m k : Nat} (hm : m < 2 ^ u) (h : m.testBit k = true) : k < u := by
  by_cases hk : k < u
  · exact hk
  · have := Nat.testBit_lt_two_pow (x := m) (i := k) (Nat.lt_of_lt_of_le hm (Nat.pow_le_pow_right (by decide) (by omega)))
    rw [this] at h; cases h
def varsD (c : List Int) : List Nat := c.map fun l => l.natAbs - 1
theorem varsD_nodup {u : Nat} {c : List Int} (h : okClause u c = true) : (varsD c).Nodup := by
  simp only [okClause, zbc, decide_eq_true_eq] at h
  obtain ⟨_, h⟩ := h
  have hi : ∀ j, j < c.length → ∀ i, i < j → (c.getD i 0).natAbs < (c.getD j 0).natAbs := by
    intro j
    induction j with
    | zero => intro _ i hi; omega
    | succ j ih =>
      intro hj i hi
      have h1 := (h (j + 1) hj).2 (by omega)
      rw [Nat.add_sub_cancel] at h1
      by_cases e : i = j
      · subst e; exact h1
      · exact Nat.lt_trans (ih (by omega) i (by omega)) h1
  unfold varsD
  rw [List.Nodup, List.pairwise_map, List.pairwise_iff_getElem]
  intro i j hi' hj hij e
  have h1 := hi j hj i hij
  have h2 := (h i hi').1.1
  rw [List.getD_eq_getElem?_getD, List.getElem?_eq_getElem hi', Option.getD_some] at h1 h2
  rw [List.getD_eq_getElem?_getD, List.getElem?_eq_getElem hj, Option.getD_some] at h1
  omega
theorem varsD_lt {u : Nat} {c : List Int} (h : ∀ l ∈ c, LitU u l) {k : Nat} (hk : k ∈ varsD c) : k < u := by
  obtain ⟨l, hl, rfl⟩ := List.mem_map.1 hk
  have := h l hl
  unfold LitU at this; omega
theorem len_cnt {u : Nat} (hu : u ≤ 6) {c : List Int} (h : okClause u c = true) (hl : ∀ l ∈ c, LitU u l) {m : Nat} (hm : m < 2 ^ u) (hd : ∀ k ∈ varsD c, m.testBit k = false) : cnt m + c.length ≤ u := by
  rw [cnt_bits u (by omega) m hm]
  have hn : (((List.range u).filter fun k => m.testBit k) ++ varsD c).Nodup := by
    rw [List.nodup_append]
    refine ⟨List.Nodup.sublist List.filter_sublist List.nodup_range, varsD_nodup h, fun a ha b hb e => ?_⟩
    subst e
    have h1 := (List.mem_filter.1 ha).2
    have h2 := hd a hb
    rw [h2] at h1; cases h1
  have := nodup_len (l' := List.range u) hn fun x hx => by
    rcases List.mem_append.1 hx with h1 | h1
    · exact (List.mem_filter.1 h1).1
    · exact List.mem_range.2 (varsD_lt hl h1)
  simpa [varsD] using this
section
variable {p : Int} {u : Nat} (hp : 1 < p) (hu : u ≤ 6)
include hp
theorem ev_prodC {c : List Int} (hl : ∀ l ∈ c, LitU u l) {m : Nat} (hm : m < 2 ^ u) (x : Nat) : ev p (prodC p u c m) x = if c.any (litT x) = false ∧ m &&& x = m then 1 else 0 := by
  unfold prodC
  rw [ev_mul hp (Vec.clause hp u c).1 (mono_len u m), ev_clause hp hl, ev_mono hp hm]
  cases c.any (litT x) with
  | true => rw [if_pos rfl, Int.zero_mul, Int.zero_emod, if_neg (fun h => by cases h.1)]
  | false =>
    rw [if_neg (by decide)]
    by_cases h : m &&& x = m
    · rw [if_pos h, if_pos ⟨rfl, h⟩]; exact Int.emod_eq_of_lt (by decide) hp
    · rw [if_neg h, if_neg fun h' => h h'.2]; rfl
include hu
theorem prodC_in {G : Int → List Nat} (hG : ∀ d, GmL u d (G d)) {cs : List (List Int)} {c : List Int} (hc : c ∈ cs) (hok : okClause u c = true) (hl : ∀ l ∈ c, LitU u l) : ∀ m, m < 2 ^ u → Sp p (2 ^ u) (prodsP p u G cs u) (prodC p u c m) := by
  intro m
  induction m using Nat.strongRecOn with
  | ind m ih =>
    intro hm
    have h64 := pow_le6 hu
    by_cases hd : ∀ k ∈ varsD c, m.testBit k = false
    · have h1 := len_cnt hu hok hl hm hd
      exact Sp.self (by omega) (prodsP_vec hp) ((prodsP_mem hG).2 ⟨c, hc, by omega, m, hm, by omega, rfl⟩)
    · have : ∃ k, k ∈ varsD c ∧ m.testBit k = true := Classical.byContradiction fun h => hd fun k hk => by
        cases hb : m.testBit k with
        | false => rfl
        | true => exact absurd ⟨k, hk, hb⟩ h
      obtain ⟨k, hk, hb⟩ := this
      have hku := testBit_lt hm hb
      obtain ⟨b1, b2⟩ := bit_out m (by omega) k (by omega) hb
      have hsub : ∀ x, m &&& x = m ↔ (m - 2 ^ k) &&& x = m - 2 ^ k ∧ x.testBit k = true := fun x => by
        have := or_sub (m - 2 ^ k) (2 ^ k) x
        rwa [b1, bit_sub] at this
      obtain ⟨l, hlc, hlk⟩ := List.mem_map.1 hk
      by_cases hpos : 0 < l
      · have e : prodC p u c m = List.replicate (2 ^ u) 0 := ev_inj hp (prodC_vec hp u c m) (Vec.zero (by omega) _) fun x _ => by
          rw [ev_prodC hp hl hm, ev_zero hp, if_neg]
          rintro ⟨h1, h2⟩
          have h3 := ((hsub x).1 h2).2
          rw [List.any_eq_false] at h1
          have h4 := h1 l hlc
          unfold litT at h4
          rw [hlk, h3, decide_eq_true hpos] at h4
          exact h4 rfl
        rw [e]; exact .zero
      · have e : prodC p u c m = prodC p u c (m - 2 ^ k) := ev_inj hp (prodC_vec hp u c m) (prodC_vec hp u c _) fun x _ => by
          rw [ev_prodC hp hl hm, ev_prodC hp hl (by omega)]
          by_cases h1 : c.any (litT x) = false
          · have h4 := (List.any_eq_false.1 h1) l hlc
            unfold litT at h4
            rw [hlk, decide_eq_false hpos] at h4
            have h5 : x.testBit k = true := by
              cases hx : x.testBit k with
              | true => rfl
              | false => rw [hx] at h4; exact absurd rfl h4
            by_cases h6 : (m - 2 ^ k) &&& x = m - 2 ^ k
            · rw [if_pos ⟨h1, (hsub x).2 ⟨h6, h5⟩⟩, if_pos ⟨h1, h6⟩]
            · rw [if_neg fun h => h6 ((hsub x).1 h.2).1, if_neg fun h => h6 h.2]
          · rw [if_neg fun h => h1 h.1, if_neg fun h => h1 h.1]
        rw [e]
        exact ih (m - 2 ^ k) (by omega) (by omega)
omit hu in
theorem mul_addr {k : Int} {a b b' : List Int} (ha : a.length = 2 ^ u) (hb : b.length = 2 ^ u) (hb' : b'.length = 2 ^ u) : mulD p (2 ^ u) a (addD p k b b') = addD p k (mulD p (2 ^ u) a b) (mulD p (2 ^ u) a b') := by
  have h0 : 0 < p := by omega
  have v1 := Vec.mulD (p := p) h0 (2 ^ u) a b
  have v2 := Vec.mulD (p := p) h0 (2 ^ u) a b'
  refine ev_inj hp (Vec.mulD h0 _ _ _) (Vec.addD h0 v1.1 v2.1) fun x _ => ?_
  rw [ev_mul hp ha (by rw [addD_len (by omega), hb]), ev_add hp hb hb', ev_add hp v1.1 v2.1, ev_mul hp ha hb, ev_mul hp ha hb']
  generalize ev p a x = A
  generalize ev p b x = B
  generalize ev p b' x = C
  obtain ⟨t1, e1⟩ := emod_wit p (B + k * C)
  obtain ⟨t2, e2⟩ := emod_wit p (A * B)
  obtain ⟨t3, e3⟩ := emod_wit p (A * C)
  rw [e1, e2, e3]
  exact emod_eq_of (A * t1 - t2 - k * t3) (by grind)
def partM (p : Int) (u : Nat) (w : List Int) (k : Nat) : List Int := (List.range k).foldl (fun v m => addD p (w.getD m 0) v (monoD u m)) (List.replicate (2 ^ u) 0)
omit hp hu in
theorem partM_succ (w : List Int) (k : Nat) : partM p u w (k + 1) = addD p (w.getD k 0) (partM p u w k) (monoD u k) := by
  unfold partM; rw [List.range_succ, List.foldl_append]; rfl
omit hu in
theorem partM_len (w : List Int) : ∀ k, (partM p u w k).length = 2 ^ u
  | 0 => by simp [partM]
  | k + 1 => by rw [partM_succ, addD_len (by rw [partM_len w k, mono_len]), partM_len w k]
omit hu in
theorem partM_get {w : List Int} (hw : Vec p (2 ^ u) w) : ∀ k, k ≤ 2 ^ u → ∀ i, (partM p u w k).getD i 0 = if i < k then w.getD i 0 else 0
  | 0, _, i => by rw [if_neg (by omega)]; exact getD_rep _ _
  | k + 1, hk, i => by
    rw [partM_succ, addD_get (by rw [partM_len hp w k, mono_len]), partM_get hw k (by omega) i, mono_get hp (by omega)]
    have h1 := hw.2 i
    by_cases e : k = i
    · subst e
      rw [if_neg (by omega), if_pos rfl, if_pos (by omega), Int.mul_one, Int.zero_add, Int.emod_eq_of_lt h1.1 h1.2]
    · rw [if_neg e, Int.mul_zero, Int.add_zero]
      by_cases h : i < k
      · rw [if_pos h, if_pos (by omega), Int.emod_eq_of_lt h1.1 h1.2]
      · rw [if_neg h, if_neg (by omega)]; rfl
omit hu in
theorem partM_all {w : List Int} (hw : Vec p (2 ^ u) w) : partM p u w (2 ^ u) = w := by
  refine vec_ext (p := p) (partM_len hp w _) hw.1 fun i => ?_
  rw [partM_get hp hw _ (Nat.le_refl _)]
  split
  · rfl
  · rw [getD_oob (by rw [hw.1]; omega)]
theorem mul_in {G : Int → List Nat} (hG : ∀ d, GmL u d (G d)) {cs : List (List Int)} {c : List Int} (hc : c ∈ cs) (hok : okClause u c = true) (hl : ∀ l ∈ c, LitU u l) {w : List Int} (hw : Vec p (2 ^ u) w) : Sp p (2 ^ u) (prodsP p u G cs u) (mulD p (2 ^ u) (clauseD p u c) w) := by
  have hcl := (Vec.clause (p := p) hp u c).1
  have key : ∀ k, k ≤ 2 ^ u → Sp p (2 ^ u) (prodsP p u G cs u) (mulD p (2 ^ u) (clauseD p u c) (partM p u w k)) := by
    intro k
    induction k with
    | zero =>
      intro _
      have e : mulD p (2 ^ u) (clauseD p u c) (partM p u w 0) = List.replicate (2 ^ u) 0 := ev_inj hp (Vec.mulD (by omega) _ _ _) (Vec.zero (by omega) _) fun x _ => by
        rw [ev_mul hp hcl (partM_len hp w 0), show partM p u w 0 = List.replicate (2 ^ u) 0 from rfl, ev_zero hp, Int.mul_zero]; rfl
      rw [e]; exact .zero
    | succ k ih =>
      intro hk
      rw [partM_succ, mul_addr hp hcl (partM_len hp w k) (mono_len u k)]
      exact (ih (by omega)).plus (by omega) (prodsP_vec hp) _ (prodC_in hp hu hG hc hok hl k (by omega))
  have := key _ (Nat.le_refl _)
  rwa [partM_all hp hw] at this
def notAll (p : Int) (u : Nat) : List (List Int) → List Int
  | [] => monoD u 0
  | c :: r => mulD p (2 ^ u) (notAll p u r) (addD p (p - 1) (monoD u 0) (clauseD p u c))
omit hu in
theorem notAll_vec : ∀ cs : List (List Int), Vec p (2 ^ u) (notAll p u cs)
  | [] => Vec.mono hp u 0
  | _ :: _ => Vec.mulD (by omega) _ _ _
omit hu in
theorem ev_notAll : ∀ (cs : List (List Int)), (∀ c ∈ cs, ∀ l ∈ c, LitU u l) → ∀ x, ev p (notAll p u cs) x = if cs.all (fun c => c.any (litT x)) then 1 else 0
  | [], _, x => by rw [show notAll p u [] = monoD u 0 from rfl, ev_one hp]; rfl
  | c :: r, h, x => by
    have hcl := (Vec.clause (p := p) hp u c).1
    rw [show notAll p u (c :: r) = mulD p (2 ^ u) (notAll p u r) (addD p (p - 1) (monoD u 0) (clauseD p u c)) from rfl, ev_mul hp (notAll_vec hp r).1 (by rw [addD_len (by rw [mono_len, hcl]), mono_len]), ev_notAll r (fun c' h' => h c' (by simp [h'])) x, ev_add hp (mono_len u 0) hcl, ev_one hp, ev_clause hp (h c (by simp)), List.all_cons]
    cases c.any (litT x) with
    | true =>
      rw [if_pos rfl, Bool.true_and, Int.mul_zero, Int.add_zero, Int.emod_eq_of_lt (by decide) hp, Int.mul_one]
      split
      · exact Int.emod_eq_of_lt (by decide) hp
      · rfl
    | false =>
      rw [show (if false = true then (0 : Int) else 1) = 1 from rfl, Bool.false_and, Int.mul_one, show 1 + (p - 1) = p by omega, Int.emod_self, Int.mul_zero]
      rfl
theorem one_less {G : Int → List Nat} (hG : ∀ d, GmL u d (G d)) {cs : List (List Int)} (hok : ∀ c ∈ cs, okClause u c = true) (hl : ∀ c ∈ cs, ∀ l ∈ c, LitU u l) : ∀ l : List (List Int), (∀ c ∈ l, c ∈ cs) → Sp p (2 ^ u) (prodsP p u G cs u) (addD p (p - 1) (monoD u 0) (notAll p u l))
  | [], _ => by
    have e : addD p (p - 1) (monoD u 0) (notAll p u []) = List.replicate (2 ^ u) 0 := ev_inj hp (Vec.addD (by omega) (mono_len u 0) (notAll_vec hp []).1) (Vec.zero (by omega) _) fun x _ => by
      rw [ev_add hp (mono_len u 0) (notAll_vec hp []).1, ev_zero hp, show notAll p u [] = monoD u 0 from rfl, ev_one hp, show 1 + (p - 1) * 1 = p by omega, Int.emod_self]
    rw [e]; exact .zero
  | c :: r, h => by
    have hcv := Vec.clause (p := p) hp u c
    have hr := notAll_vec (u := u) hp r
    have ih := one_less hG hok hl r fun c' h' => h c' (by simp [h'])
    have hm := mul_in hp hu hG (h c (by simp)) (hok c (h c (by simp))) (hl c (h c (by simp))) hr
    have h0 : 0 < p := by omega
    have v0 : Vec p (2 ^ u) (addD p (p - 1) (monoD u 0) (notAll p u r)) := Vec.addD h0 (mono_len u 0) hr.1
    have v1 : Vec p (2 ^ u) (mulD p (2 ^ u) (clauseD p u c) (notAll p u r)) := Vec.mulD h0 _ _ _
    have v2 : (addD p (p - 1) (monoD u 0) (clauseD p u c)).length = 2 ^ u := by rw [addD_len (by rw [mono_len, hcv.1]), mono_len]
    have e : addD p (p - 1) (monoD u 0) (notAll p u (c :: r)) = addD p 1 (addD p (p - 1) (monoD u 0) (notAll p u r)) (mulD p (2 ^ u) (clauseD p u c) (notAll p u r)) :=
      ev_inj hp (Vec.addD h0 (mono_len u 0) (notAll_vec hp (c :: r)).1) (Vec.addD h0 v0.1 v1.1) fun x _ => by
        rw [ev_add hp (mono_len u 0) (notAll_vec hp (c :: r)).1, ev_add hp v0.1 v1.1, ev_add hp (mono_len u 0) hr.1, ev_mul hp hcv.1 hr.1, show notAll p u (c :: r) = mulD p (2 ^ u) (notAll p u r) (addD p (p - 1) (monoD u 0) (clauseD p u c)) from rfl, ev_mul hp hr.1 v2, ev_add hp (mono_len u 0) hcv.1, ev_one hp]
        generalize ev p (notAll p u r) x = A
        generalize ev p (clauseD p u c) x = B
        obtain ⟨t1, e1⟩ := emod_wit p (1 + (p - 1) * B)
        rw [e1]
        obtain ⟨t2, e2⟩ := emod_wit p (A * (1 + (p - 1) * B + p * t1))
        obtain ⟨t3, e3⟩ := emod_wit p (1 + (p - 1) * A)
        obtain ⟨t4, e4⟩ := emod_wit p (B * A)
        rw [e2, e3, e4]
        exact emod_eq_of ((p - 1) * (A * t1 + t2) + (p - 2) * (A * B) - t3 - t4) (by grind)
    rw [e]
    exact ih.plus h0 (prodsP_vec hp) 1 hm
theorem one_in {G : Int → List Nat} (hG : ∀ d, GmL u d (G d)) {cs : List (List Int)} (hok : ∀ c ∈ cs, okClause u c = true) (hl : ∀ c ∈ cs, ∀ l ∈ c, LitU u l) (hun : ∀ x, x < 2 ^ u → cs.all (fun c => c.any (litT x)) = false) : Sp p (2 ^ u) (prodsP p u G cs u) (monoD u 0) := by
  have h := one_less hp hu hG hok hl cs fun _ h => h
  have e : notAll p u cs = List.replicate (2 ^ u) 0 := ev_inj hp (notAll_vec hp cs) (Vec.zero (by omega) _) fun x hx => by
    rw [ev_notAll hp cs hl, hun x hx, ev_zero hp]; rfl
  rwa [e, addD_z (Vec.mono hp u 0)] at h
omit hu in
theorem one_out {d : Int} {G : Int → List Nat} (hG : ∀ d, GmL u d (G d)) {cs : List (List Int)} (hl : ∀ c ∈ cs, ∀ l ∈ c, LitU u l) {x : Nat} (hm : cs.all (fun c => c.any (litT x)) = true) : ¬ Sp p (2 ^ u) (prodsP p u G cs d) (monoD u 0) := by
  intro h
  have key : ∀ v, Sp p (2 ^ u) (prodsP p u G cs d) v → ev p v x = 0 := by
    intro v hv
    induction hv with
    | zero => exact ev_zero hp _ _
    | add k hv hr ih =>
      rename_i w r
      obtain ⟨c, hc, _, m, hm1, _, rfl⟩ := (prodsP_mem hG).1 hr
      have h1 := List.all_eq_true.1 hm c hc
      rw [ev_add hp (hv.vec (by omega) (prodsP_vec hp)).1 (prodC_vec hp u c m).1, ih, ev_prodC hp (hl c hc) hm1, if_neg (fun h => by rw [h.1] at h1; cases h1)]
      simp
  have := key _ h
  rw [ev_one hp] at this
  cases this
end
end Abs.Y
